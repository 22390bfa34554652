/- FlashOwn returns true for every input whose bulk is at most 1048576, and each argument reads afterwards as it read before. Conditions: none beyond the statement's own. -/
import Derived.Test.YtkcbgpilfegofaaRows
import Derived.Test.YtkcbgpilfegofaaBulk
import Derived.Test.YtkcbgpilfegofaaKids
import Derived.Test.YtkcbgpilfegofaaL7
import Derived.Test.YtkcbgpilfegofaaGvOpen
import Derived.WalkKit
import Derived.ProofKit
import Derived.OpenShut
import Derived.JoinedCond
namespace Go.Proofs.Ytkcbgpilfegofaa.flashOwn
open Go Go.ChangeShapes Go.WideShapes Go.ChangeAt Go.RowKit Go.Gv Go.Proofs.Ytkcbgpilfegofaa Go.Proofs.Ytkcbgpilfegofaa.bulks
set_option linter.unusedVariables false
set_option linter.unusedSimpArgs false
set_option maxRecDepth 100000 in
theorem contract (H : Type) (enc : TypeId × Value → H) (W : World) (base : Nat) (args : Array Value) (ds gs : List (DataW H)) (before : List MemPlace)
    (hval : ∀ (j : Nat) t v, Try.f13.params[j]? = some t → args[j]? = some v → Value.okWide Try.prog W .any base t v)
    (hW : DataW.Whole enc Try.prog Try.f13.params.toList Rows.flashOwnSpec.vars false W args.toList ds gs before) (hk : Rows.uptoSmall H (ds ++ gs) = true) :
    Calls Try.prog 13 args W fun e W' => ∃ v, e = .returned v ∧ Rows.flashOwnSpec.post enc Try.prog Try.f13 false true false false W args v W' := by
  have hW' := hW
  obtain ⟨p, q, hA0, hV, hpq, hfz, hnd⟩ := hW
  have hA : DataW.TrodAll enc Try.prog W 0 (fun _ => true) true Try.f13.params.toList args.toList ds p := hA0
  have hbulk := bulks.bound hk
  rw [Try.params13] at hA hval
  obtain ⟨v0, vs0, d0, ds0, p0, q0, hargs, rfl, rfl, h0, r0⟩ := trodAll_cons hA
  obtain ⟨v1, vs1, d1, ds1, p1, q1, rfl, rfl, rfl, h1, r1⟩ := trodAll_cons r0
  obtain ⟨rfl, rfl, rfl⟩ := trodAll_nil r1
  obtain rfl : args = ⟨[v0, v1]⟩ := by cases args; simp_all
  obtain ⟨rfl, hq⟩ := trodVars_none hV
  obtain ⟨u0, y0, m0, rfl, rfl, t0⟩ := open_one Try.underlying24 (by kernel_rfl) ⟨rfl, by kernel_rfl⟩ (hval 0 24 v0 rfl rfl) h0
  obtain ⟨a0, c0, xs0, rfl, row0, b0⟩ := open_row_strs Try.underlying22 Try.underlying9 (by kernel_rfl) t0
  have hl0 : xs0.length ≤ 1048576 ∧ ∀ s ∈ xs0, s.length ≤ 1048576 := bulks.code_le b0 (Nat.le_trans (bulks.part_le (d := DataW.agg [y0.1]) (by simp)) hbulk)
  obtain ⟨a1, l1, c1, rfl⟩ := okWide_slice Try.underlying25 (hval 1 25 v1 rfl rfl)
  obtain ⟨fu1, t1⟩ := h1
  have t1 : DataW.trod enc Try.prog W 0 (fun _ => true) true fu1 25 [.slice a1 l1 c1] = some (d1, p1) := by simpa [Value.cells] using t1
  obtain ⟨a1, c1, xs1, e1, row1, wf1, b1⟩ := open_row_ints Try.underlying25 Try.underlying3 (by kernel_rfl) t1
  injection e1 with e11 e12 e13; subst e11; subst e12; subst e13
  have hl1 : xs1.length ≤ 1048576 := bulks.ints_le b1 (Nat.le_trans (bulks.part_le (d := d1) (by simp)) hbulk)
  refine Calls.mono (flashOwn_ret _ _ _ _ _ _ W row0 (by omega) row1 (by omega) : Ret Try.prog 13 _ W _) ?_
  rintro e W' ⟨v, rfl, rfl, hE⟩
  exact ⟨_, rfl, post_law kids full (by rw [Try.params13]; decide) rfl rfl Try.underlying4 hW' rfl rfl rfl hE⟩
set_option maxRecDepth 100000 in
theorem lifted (os : Os) (started : os.Started) (H : Type) (enc : TypeId × Value → H) (F : Stop.Interp) :
    ReturnsInHanded {} Try.checked os 13 .any ((Rows.OpenSpec.upto Rows.flashOwnSpec).pre6 enc Try.prog Try.f13 Rows.flashOwnUptoRow.domain false) (((Rows.OpenSpec.upto Rows.flashOwnSpec).at F).post enc Try.prog Try.f13 false true false false) := by
  refine returnsInHanded_of_cond (C := Try.checked) (s := Rows.OpenSpec.upto Rows.flashOwnSpec) (k := Rows.uptoSmall) rfl own started (by kernel_rfl) Try.func13
    (OpenSpec.witness (enc := enc) (C := Try.checked) (s := Rows.OpenSpec.upto Rows.flashOwnSpec) (k := Rows.uptoSmall) rfl false ⟨#[], #[.agg #[.slice none 0 0], .slice none 0 0], []⟩ 8 (by kernel_rfl) (by kernel_rfl) (by kernel_rfl)
      (x := ([.agg [.nil], .nil], [], [])) (by kernel_rfl) rfl (by kernel_rfl)) ?_
  intro W base args ds gs before hval hW _ hk _
  exact contract H enc W base args ds gs before hval hW hk
theorem over : Rows.flashOwnUptoRow.holds Try.pinned (Rows.OpenSpec.upto Rows.flashOwnSpec) :=
  OpenClaim.holds_of_cond 13 Try.f13 rfl rfl rfl rfl rfl rfl rfl ⟨rfl, rfl, rfl, rfl, rfl⟩ rfl rfl rfl rfl rfl (by kernel_rfl) Try.func13 (by kernel_rfl)
    (of_decide_eq_true (by kernel_rfl)) (by unfold Func.isWrapper; first | (rw [if_pos (by decide +kernel)]; kernel_rfl) | (rw [if_neg (by decide +kernel)]; exact ⟨rfl, rfl⟩))
    (fun os started H enc _ F => lifted os started H enc F)
theorem flashOwn_holds : Rows.FlashOwnUptoSaid := over
end Go.Proofs.Ytkcbgpilfegofaa.flashOwn
