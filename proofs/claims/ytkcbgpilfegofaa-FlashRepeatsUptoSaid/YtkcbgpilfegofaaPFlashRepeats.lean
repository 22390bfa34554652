/- FlashRepeats returns true for every input whose bulk is at most 1048576, and each argument reads afterwards as it read before. Conditions: none beyond the statement's own. -/
import Derived.Test.YtkcbgpilfegofaaRows
import Derived.Test.YtkcbgpilfegofaaBulk
import Derived.Test.YtkcbgpilfegofaaKids
import Derived.Test.YtkcbgpilfegofaaL2
import Derived.Test.YtkcbgpilfegofaaGvOpen
import Derived.WalkKit
import Derived.ProofKit
import Derived.OpenShut
import Derived.JoinedCond
namespace Go.Proofs.Ytkcbgpilfegofaa.flashRepeats
open Go Go.ChangeShapes Go.WideShapes Go.ChangeAt Go.RowKit Go.Gv Go.Proofs.Ytkcbgpilfegofaa Go.Proofs.Ytkcbgpilfegofaa.bulks
set_option linter.unusedVariables false
set_option linter.unusedSimpArgs false
set_option maxRecDepth 100000 in
theorem contract (H : Type) (enc : TypeId × Value → H) (W : World) (base : Nat) (args : Array Value) (ds gs : List (DataW H)) (before : List MemPlace)
    (hval : ∀ (j : Nat) t v, Try.f6.params[j]? = some t → args[j]? = some v → Value.okWide Try.prog W .any base t v)
    (hW : DataW.Whole enc Try.prog Try.f6.params.toList Rows.flashRepeatsSpec.vars false W args.toList ds gs before) (hk : Rows.uptoSmall H (ds ++ gs) = true) :
    Calls Try.prog 6 args W fun e W' => ∃ v, e = .returned v ∧ Rows.flashRepeatsSpec.post enc Try.prog Try.f6 false true false false W args v W' := by
  have hW' := hW
  obtain ⟨p, q, hA0, hV, hpq, hfz, hnd⟩ := hW
  have hA : DataW.TrodAll enc Try.prog W 0 (fun _ => true) true Try.f6.params.toList args.toList ds p := hA0
  have hbulk := bulks.bound hk
  rw [Try.params6] at hA hval
  obtain ⟨v0, vs0, d0, ds0, p0, q0, hargs, rfl, rfl, h0, r0⟩ := trodAll_cons hA
  obtain ⟨rfl, rfl, rfl⟩ := trodAll_nil r0
  obtain rfl : args = ⟨[v0]⟩ := by cases args; simp_all
  obtain ⟨rfl, hq⟩ := trodVars_none hV
  obtain ⟨a0, l0, c0, rfl⟩ := okWide_slice Try.underlying48 (hval 0 48 v0 rfl rfl)
  obtain ⟨fu0, t0⟩ := h0
  have t0 : DataW.trod enc Try.prog W 0 (fun _ => true) true fu0 48 [.slice a0 l0 c0] = some (d0, p0) := by simpa [Value.cells] using t0
  obtain ⟨a0, c0, xs0, e0, row0, rw0, b0⟩ := open_row_rows Try.underlying48 Try.underlying25 Try.underlying3 (by kernel_rfl) (by kernel_rfl) t0
  injection e0 with e01 e02 e03; subst e01; subst e02; subst e03
  have hl0 : xs0.length ≤ 1048576 ∧ ∀ s ∈ xs0, s.xs.length ≤ 1048576 := bulks.rows_le b0 (Nat.le_trans (bulks.part_le (d := d0) (by simp)) hbulk)
  refine Calls.mono (flashRepeats_ret _ _ _ W row0 rw0 (by omega) (fun s hs => by have := hl0.2 s hs; omega) : Ret Try.prog 6 _ W _) ?_
  rintro e W' ⟨v, rfl, rfl, hE⟩
  exact ⟨_, rfl, post_law kids full (by rw [Try.params6]; decide) rfl rfl Try.underlying4 hW' rfl rfl rfl hE⟩
set_option maxRecDepth 100000 in
theorem lifted (os : Os) (started : os.Started) (H : Type) (enc : TypeId × Value → H) (F : Stop.Interp) :
    ReturnsInHanded {} Try.checked os 6 .any ((Rows.OpenSpec.upto Rows.flashRepeatsSpec).pre6 enc Try.prog Try.f6 Rows.flashRepeatsUptoRow.domain false) (((Rows.OpenSpec.upto Rows.flashRepeatsSpec).at F).post enc Try.prog Try.f6 false true false false) := by
  refine returnsInHanded_of_cond (C := Try.checked) (s := Rows.OpenSpec.upto Rows.flashRepeatsSpec) (k := Rows.uptoSmall) rfl own started (by kernel_rfl) Try.func6
    (OpenSpec.witness (enc := enc) (C := Try.checked) (s := Rows.OpenSpec.upto Rows.flashRepeatsSpec) (k := Rows.uptoSmall) rfl false ⟨#[], #[.slice none 0 0], []⟩ 8 (by kernel_rfl) (by kernel_rfl) (by kernel_rfl)
      (x := ([.nil], [], [])) (by kernel_rfl) rfl (by kernel_rfl)) ?_
  intro W base args ds gs before hval hW _ hk _
  exact contract H enc W base args ds gs before hval hW hk
theorem over : Rows.flashRepeatsUptoRow.holds Try.pinned (Rows.OpenSpec.upto Rows.flashRepeatsSpec) :=
  OpenClaim.holds_of_cond 6 Try.f6 rfl rfl rfl rfl rfl rfl rfl ⟨rfl, rfl, rfl, rfl, rfl⟩ rfl rfl rfl rfl rfl (by kernel_rfl) Try.func6 (by kernel_rfl)
    (of_decide_eq_true (by kernel_rfl)) (by unfold Func.isWrapper; first | (rw [if_pos (by decide +kernel)]; kernel_rfl) | (rw [if_neg (by decide +kernel)]; exact ⟨rfl, rfl⟩))
    (fun os started H enc _ F => lifted os started H enc F)
theorem flashRepeats_holds : Rows.FlashRepeatsUptoSaid := over
end Go.Proofs.Ytkcbgpilfegofaa.flashRepeats
