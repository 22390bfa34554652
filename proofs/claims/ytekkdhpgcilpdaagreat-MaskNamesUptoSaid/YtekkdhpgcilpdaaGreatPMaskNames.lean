/- MaskNames returns true for every input whose bulk is at most 1048576, and each argument reads afterwards as it read before. Conditions: none beyond the statement's own. -/
import Derived.Test.YtekkdhpgcilpdaaGreatRows
import Derived.Test.YtekkdhpgcilpdaaGreatBulk
import Derived.Test.YtekkdhpgcilpdaaGreatKids
import Derived.Test.YtekkdhpgcilpdaaGreatKMaskNames
import Derived.Test.YtekkdhpgcilpdaaGreatMO
import Derived.Test.YtekkdhpgcilpdaaGreatGvO
import Derived.WalkKit
import Derived.ProofKit
import Derived.OpenShut
import Derived.JoinedCond
namespace Go.Proofs.YtekkdhpgcilpdaaGreat.maskNames
open Go Go.ChangeShapes Go.WideShapes Go.ChangeAt Go.RowKit Go.Gv Go.Proofs.YtekkdhpgcilpdaaGreat Go.Proofs.YtekkdhpgcilpdaaGreat.bulks
set_option linter.unusedVariables false
set_option linter.unusedSimpArgs false
set_option maxRecDepth 100000 in
theorem contract (H : Type) (enc : TypeId × Value → H) (W : World) (base : Nat) (args : Array Value) (ds gs : List (DataW H)) (before : List MemPlace)
    (hval : ∀ (j : Nat) t v, Tryz.f14.params[j]? = some t → args[j]? = some v → Value.okWide Tryz.prog W .any base t v)
    (hW : DataW.Whole enc Tryz.prog Tryz.f14.params.toList Rows.maskNamesSpec.vars false W args.toList ds gs before) (hk : Rows.uptoSmall H (ds ++ gs) = true) :
    Calls Tryz.prog 14 args W fun e W' => ∃ v, e = .returned v ∧ Rows.maskNamesSpec.post enc Tryz.prog Tryz.f14 false true false false W args v W' := by
  have hW' := hW
  obtain ⟨p, q, hA0, hV, hpq, hfz, hnd⟩ := hW
  have hA : DataW.TrodAll enc Tryz.prog W 0 (fun _ => true) true Tryz.f14.params.toList args.toList ds p := hA0
  have hbulk := bulks.bound hk
  rw [Tryz.params14] at hA hval
  obtain ⟨hnn, rfl, rfl⟩ := trodAll_nil hA
  obtain rfl : args = ⟨[]⟩ := by cases args; simp_all
  obtain ⟨rfl, hq⟩ := trodVars_none hV
  refine Calls.mono (maskNames_ret W : Ret Tryz.prog 14 _ W _) ?_
  rintro e W' ⟨v, rfl, rfl, hE⟩
  exact ⟨_, rfl, post_law kids full (by rw [Tryz.params14]; decide) rfl rfl Tryz.underlying4 hW' rfl rfl rfl hE⟩
set_option maxRecDepth 100000 in
theorem lifted (os : Os) (started : os.Started) (H : Type) (enc : TypeId × Value → H) (F : Stop.Interp) :
    ReturnsInHanded {} Tryz.checked os 14 .any ((Rows.OpenSpec.upto Rows.maskNamesSpec).pre6 enc Tryz.prog Tryz.f14 Rows.maskNamesUptoRow.domain false) (((Rows.OpenSpec.upto Rows.maskNamesSpec).at F).post enc Tryz.prog Tryz.f14 false true false false) := by
  refine returnsInHanded_of_cond (C := Tryz.checked) (s := Rows.OpenSpec.upto Rows.maskNamesSpec) (k := Rows.uptoSmall) rfl own started (by kernel_rfl) Tryz.func14
    (OpenSpec.witness (enc := enc) (C := Tryz.checked) (s := Rows.OpenSpec.upto Rows.maskNamesSpec) (k := Rows.uptoSmall) rfl false ⟨#[], #[], []⟩ 8 (by kernel_rfl) (by kernel_rfl) (by kernel_rfl)
      (x := ([], [], [])) (by kernel_rfl) rfl (by kernel_rfl)) ?_
  intro W base args ds gs before hval hW _ hk _
  exact contract H enc W base args ds gs before hval hW hk
theorem over : Rows.maskNamesUptoRow.holds Tryz.pinned (Rows.OpenSpec.upto Rows.maskNamesSpec) :=
  OpenClaim.holds_of_cond 14 Tryz.f14 rfl rfl rfl rfl rfl rfl rfl ⟨rfl, rfl, rfl, rfl, rfl⟩ rfl rfl rfl rfl rfl (by kernel_rfl) Tryz.func14 (by kernel_rfl)
    (of_decide_eq_true (by kernel_rfl)) (by unfold Func.isWrapper; first | (rw [if_pos (by decide +kernel)]; kernel_rfl) | (rw [if_neg (by decide +kernel)]; exact ⟨rfl, rfl⟩))
    (fun os started H enc _ F => lifted os started H enc F)
theorem maskNames_holds : Rows.MaskNamesUptoSaid := over
end Go.Proofs.YtekkdhpgcilpdaaGreat.maskNames
