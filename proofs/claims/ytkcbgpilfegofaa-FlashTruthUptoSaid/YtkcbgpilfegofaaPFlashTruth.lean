/- FlashTruth returns true for every input whose bulk is at most 1048576, and each argument reads afterwards as it read before. Conditions: none beyond the statement's own. -/
import Derived.Test.YtkcbgpilfegofaaRows
import Derived.Test.YtkcbgpilfegofaaBulk
import Derived.Test.YtkcbgpilfegofaaKids
import Derived.Test.YtkcbgpilfegofaaL11
import Derived.Test.YtkcbgpilfegofaaGvOpen
import Derived.WalkKit
import Derived.ProofKit
import Derived.OpenShut
import Derived.JoinedCond
namespace Go.Proofs.Ytkcbgpilfegofaa.flashTruth
open Go Go.ChangeShapes Go.WideShapes Go.ChangeAt Go.RowKit Go.Gv Go.Proofs.Ytkcbgpilfegofaa Go.Proofs.Ytkcbgpilfegofaa.bulks
set_option linter.unusedVariables false
set_option linter.unusedSimpArgs false
set_option maxRecDepth 100000 in
theorem contract (H : Type) (enc : TypeId × Value → H) (W : World) (base : Nat) (args : Array Value) (ds gs : List (DataW H)) (before : List MemPlace)
    (hval : ∀ (j : Nat) t v, Try.f15.params[j]? = some t → args[j]? = some v → Value.okWide Try.prog W .any base t v)
    (hW : DataW.Whole enc Try.prog Try.f15.params.toList Rows.flashTruthSpec.vars false W args.toList ds gs before) (hk : Rows.uptoSmall H (ds ++ gs) = true) :
    Calls Try.prog 15 args W fun e W' => ∃ v, e = .returned v ∧ Rows.flashTruthSpec.post enc Try.prog Try.f15 false true false false W args v W' := by
  have hW' := hW
  obtain ⟨p, q, hA0, hV, hpq, hfz, hnd⟩ := hW
  have hA : DataW.TrodAll enc Try.prog W 0 (fun _ => true) true Try.f15.params.toList args.toList ds p := hA0
  have hbulk := bulks.bound hk
  rw [Try.params15] at hA hval
  obtain ⟨v0, vs0, d0, ds0, p0, q0, hargs, rfl, rfl, h0, r0⟩ := trodAll_cons hA
  obtain ⟨v1, vs1, d1, ds1, p1, q1, rfl, rfl, rfl, h1, r1⟩ := trodAll_cons r0
  obtain ⟨v2, vs2, d2, ds2, p2, q2, rfl, rfl, rfl, h2, r2⟩ := trodAll_cons r1
  obtain ⟨v3, vs3, d3, ds3, p3, q3, rfl, rfl, rfl, h3, r3⟩ := trodAll_cons r2
  obtain ⟨rfl, rfl, rfl⟩ := trodAll_nil r3
  obtain rfl : args = ⟨[v0, v1, v2, v3]⟩ := by cases args; simp_all
  obtain ⟨rfl, hq⟩ := trodVars_none hV
  obtain ⟨u0, y0, m0, rfl, rfl, t0⟩ := open_one Try.underlying24 (by kernel_rfl) ⟨rfl, by kernel_rfl⟩ (hval 0 24 v0 rfl rfl) h0
  obtain ⟨a0, c0, xs0, rfl, row0, b0⟩ := open_row_strs Try.underlying22 Try.underlying9 (by kernel_rfl) t0
  have hl0 : xs0.length ≤ 1048576 ∧ ∀ s ∈ xs0, s.length ≤ 1048576 := bulks.code_le b0 (Nat.le_trans (bulks.part_le (d := DataW.agg [y0.1]) (by simp)) hbulk)
  obtain ⟨a1, l1, c1, rfl⟩ := okWide_slice Try.underlying25 (hval 1 25 v1 rfl rfl)
  obtain ⟨fu1, t1⟩ := h1
  have t1 : DataW.trod enc Try.prog W 0 (fun _ => true) true fu1 25 [.slice a1 l1 c1] = some (d1, p1) := by simpa [Value.cells] using t1
  obtain ⟨a1, c1, xs1, e1, row1, wf1, b1⟩ := open_row_ints Try.underlying25 Try.underlying3 (by kernel_rfl) t1
  injection e1 with e11 e12 e13; subst e11; subst e12; subst e13
  have hl1 : xs1.length ≤ 1048576 := bulks.ints_le b1 (Nat.le_trans (bulks.part_le (d := d1) (by simp)) hbulk)
  obtain ⟨a2, l2, c2, rfl⟩ := okWide_slice Try.underlying73 (hval 2 73 v2 rfl rfl)
  obtain ⟨fu2, t2⟩ := h2
  have t2 : DataW.trod enc Try.prog W 0 (fun _ => true) true fu2 73 [.slice a2 l2 c2] = some (d2, p2) := by simpa [Value.cells] using t2
  obtain ⟨a2, c2, xs2, e2, row2, wf2, b2⟩ := open_row_ints Try.underlying73 Try.underlying134 (by kernel_rfl) t2
  injection e2 with e21 e22 e23; subst e21; subst e22; subst e23
  have hl2 : xs2.length ≤ 1048576 := bulks.ints_le b2 (Nat.le_trans (bulks.part_le (d := d2) (by simp)) hbulk)
  obtain ⟨n3, e3, x3, y3, z3⟩ := open_int Try.underlying5 (hval 3 5 v3 rfl rfl) h3
  subst e3; subst x3
  refine Calls.mono (flashTruth_ret _ _ _ _ _ _ _ _ _ n3 W row0 (by omega) row1 (by omega) row2 (by omega) (fun x hx => u16_rng (wf2 x hx)) (u8_rng z3) : Ret Try.prog 15 _ W _) ?_
  rintro e W' ⟨v, rfl, rfl, hE⟩
  exact ⟨_, rfl, post_law kids full (by rw [Try.params15]; decide) rfl rfl Try.underlying4 hW' rfl rfl rfl hE⟩
set_option maxRecDepth 100000 in
theorem lifted (os : Os) (started : os.Started) (H : Type) (enc : TypeId × Value → H) (F : Stop.Interp) :
    ReturnsInHanded {} Try.checked os 15 .any ((Rows.OpenSpec.upto Rows.flashTruthSpec).pre6 enc Try.prog Try.f15 Rows.flashTruthUptoRow.domain false) (((Rows.OpenSpec.upto Rows.flashTruthSpec).at F).post enc Try.prog Try.f15 false true false false) := by
  refine returnsInHanded_of_cond (C := Try.checked) (s := Rows.OpenSpec.upto Rows.flashTruthSpec) (k := Rows.uptoSmall) rfl own started (by kernel_rfl) Try.func15
    (OpenSpec.witness (enc := enc) (C := Try.checked) (s := Rows.OpenSpec.upto Rows.flashTruthSpec) (k := Rows.uptoSmall) rfl false ⟨#[], #[.agg #[.slice none 0 0], .slice none 0 0, .slice none 0 0, .int .u8 0], []⟩ 8 (by kernel_rfl) (by kernel_rfl) (by kernel_rfl)
      (x := ([.agg [.nil], .nil, .nil, .lit (.int .u8 0)], [], [])) (by kernel_rfl) rfl (by kernel_rfl)) ?_
  intro W base args ds gs before hval hW _ hk _
  exact contract H enc W base args ds gs before hval hW hk
theorem over : Rows.flashTruthUptoRow.holds Try.pinned (Rows.OpenSpec.upto Rows.flashTruthSpec) :=
  OpenClaim.holds_of_cond 15 Try.f15 rfl rfl rfl rfl rfl rfl rfl ⟨rfl, rfl, rfl, rfl, rfl⟩ rfl rfl rfl rfl rfl (by kernel_rfl) Try.func15 (by kernel_rfl)
    (of_decide_eq_true (by kernel_rfl)) (by unfold Func.isWrapper; first | (rw [if_pos (by decide +kernel)]; kernel_rfl) | (rw [if_neg (by decide +kernel)]; exact ⟨rfl, rfl⟩))
    (fun os started H enc _ F => lifted os started H enc F)
theorem flashTruth_holds : Rows.FlashTruthUptoSaid := over
end Go.Proofs.Ytkcbgpilfegofaa.flashTruth
