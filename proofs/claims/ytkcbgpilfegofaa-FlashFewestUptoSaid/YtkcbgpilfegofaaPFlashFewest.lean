/- FlashFewest returns true for every input whose bulk is at most 1048576, and each argument reads afterwards as it read before. Conditions: none beyond the statement's own. -/
import Derived.Test.YtkcbgpilfegofaaRows
import Derived.Test.YtkcbgpilfegofaaBulk
import Derived.Test.YtkcbgpilfegofaaKids
import Derived.Test.YtkcbgpilfegofaaL12
import Derived.Test.YtkcbgpilfegofaaGvOpen
import Derived.WalkKit
import Derived.ProofKit
import Derived.OpenShut
import Derived.JoinedCond
namespace Go.Proofs.Ytkcbgpilfegofaa.flashFewest
open Go Go.ChangeShapes Go.WideShapes Go.ChangeAt Go.RowKit Go.Gv Go.Proofs.Ytkcbgpilfegofaa Go.Proofs.Ytkcbgpilfegofaa.bulks
set_option linter.unusedVariables false
set_option linter.unusedSimpArgs false
set_option maxRecDepth 100000 in
theorem contract (H : Type) (enc : TypeId × Value → H) (W : World) (base : Nat) (args : Array Value) (ds gs : List (DataW H)) (before : List MemPlace)
    (hval : ∀ (j : Nat) t v, Try.f16.params[j]? = some t → args[j]? = some v → Value.okWide Try.prog W .any base t v)
    (hW : DataW.Whole enc Try.prog Try.f16.params.toList Rows.flashFewestSpec.vars false W args.toList ds gs before) (hk : Rows.uptoSmall H (ds ++ gs) = true) :
    Calls Try.prog 16 args W fun e W' => ∃ v, e = .returned v ∧ Rows.flashFewestSpec.post enc Try.prog Try.f16 false true false false W args v W' := by
  have hW' := hW
  obtain ⟨p, q, hA0, hV, hpq, hfz, hnd⟩ := hW
  have hA : DataW.TrodAll enc Try.prog W 0 (fun _ => true) true Try.f16.params.toList args.toList ds p := hA0
  have hbulk := bulks.bound hk
  rw [Try.params16] at hA hval
  obtain ⟨v0, vs0, d0, ds0, p0, q0, hargs, rfl, rfl, h0, r0⟩ := trodAll_cons hA
  obtain ⟨v1, vs1, d1, ds1, p1, q1, rfl, rfl, rfl, h1, r1⟩ := trodAll_cons r0
  obtain ⟨v2, vs2, d2, ds2, p2, q2, rfl, rfl, rfl, h2, r2⟩ := trodAll_cons r1
  obtain ⟨v3, vs3, d3, ds3, p3, q3, rfl, rfl, rfl, h3, r3⟩ := trodAll_cons r2
  obtain ⟨rfl, rfl, rfl⟩ := trodAll_nil r3
  obtain rfl : args = ⟨[v0, v1, v2, v3]⟩ := by cases args; simp_all
  obtain ⟨rfl, hq⟩ := trodVars_none hV
  obtain ⟨s0, e0, x0, y0, z0⟩ := Go.ChangeMaps.open_string Try.underlying9 (hval 0 9 v0 rfl rfl) h0
  subst e0; subst x0
  have hl0 : s0.data.toList.length ≤ 1048576 := by have h := Nat.le_trans (bulks.part_le (d := DataW.lit (.string s0.data.toList)) (by simp)) hbulk; rw [bulks.string_eq] at h; omega
  obtain ⟨s1, e1, x1, y1, z1⟩ := Go.ChangeMaps.open_string Try.underlying9 (hval 1 9 v1 rfl rfl) h1
  subst e1; subst x1
  have hl1 : s1.data.toList.length ≤ 1048576 := by have h := Nat.le_trans (bulks.part_le (d := DataW.lit (.string s1.data.toList)) (by simp)) hbulk; rw [bulks.string_eq] at h; omega
  obtain ⟨a2, l2, c2, rfl⟩ := okWide_slice Try.underlying25 (hval 2 25 v2 rfl rfl)
  obtain ⟨fu2, t2⟩ := h2
  have t2 : DataW.trod enc Try.prog W 0 (fun _ => true) true fu2 25 [.slice a2 l2 c2] = some (d2, p2) := by simpa [Value.cells] using t2
  obtain ⟨a2, c2, xs2, e2, row2, wf2, b2⟩ := open_row_ints Try.underlying25 Try.underlying3 (by kernel_rfl) t2
  injection e2 with e21 e22 e23; subst e21; subst e22; subst e23
  have hl2 : xs2.length ≤ 1048576 := bulks.ints_le b2 (Nat.le_trans (bulks.part_le (d := d2) (by simp)) hbulk)
  obtain ⟨a3, l3, c3, rfl⟩ := okWide_slice Try.underlying73 (hval 3 73 v3 rfl rfl)
  obtain ⟨fu3, t3⟩ := h3
  have t3 : DataW.trod enc Try.prog W 0 (fun _ => true) true fu3 73 [.slice a3 l3 c3] = some (d3, p3) := by simpa [Value.cells] using t3
  obtain ⟨a3, c3, xs3, e3, row3, wf3, b3⟩ := open_row_ints Try.underlying73 Try.underlying134 (by kernel_rfl) t3
  injection e3 with e31 e32 e33; subst e31; subst e32; subst e33
  have hl3 : xs3.length ≤ 1048576 := bulks.ints_le b3 (Nat.le_trans (bulks.part_le (d := d3) (by simp)) hbulk)
  refine Calls.mono (flashFewest_ret s0.data.toList s1.data.toList _ _ _ _ _ _ W (by omega) (by omega) row2 (by omega) row3 (by omega) (fun x hx => u16_rng (wf3 x hx)) : Ret Try.prog 16 _ W _) ?_
  rintro e W' ⟨v, rfl, rfl, hE⟩
  exact ⟨_, rfl, post_law kids full (by rw [Try.params16]; decide) rfl rfl Try.underlying4 hW' rfl rfl rfl hE⟩
set_option maxRecDepth 100000 in
theorem lifted (os : Os) (started : os.Started) (H : Type) (enc : TypeId × Value → H) (F : Stop.Interp) :
    ReturnsInHanded {} Try.checked os 16 .any ((Rows.OpenSpec.upto Rows.flashFewestSpec).pre6 enc Try.prog Try.f16 Rows.flashFewestUptoRow.domain false) (((Rows.OpenSpec.upto Rows.flashFewestSpec).at F).post enc Try.prog Try.f16 false true false false) := by
  refine returnsInHanded_of_cond (C := Try.checked) (s := Rows.OpenSpec.upto Rows.flashFewestSpec) (k := Rows.uptoSmall) rfl own started (by kernel_rfl) Try.func16
    (OpenSpec.witness (enc := enc) (C := Try.checked) (s := Rows.OpenSpec.upto Rows.flashFewestSpec) (k := Rows.uptoSmall) rfl false ⟨#[], #[.string ⟨#[]⟩, .string ⟨#[]⟩, .slice none 0 0, .slice none 0 0], []⟩ 8 (by kernel_rfl) (by kernel_rfl) (by kernel_rfl)
      (x := ([.lit (.string []), .lit (.string []), .nil, .nil], [], [])) (by kernel_rfl) rfl (by kernel_rfl)) ?_
  intro W base args ds gs before hval hW _ hk _
  exact contract H enc W base args ds gs before hval hW hk
theorem over : Rows.flashFewestUptoRow.holds Try.pinned (Rows.OpenSpec.upto Rows.flashFewestSpec) :=
  OpenClaim.holds_of_cond 16 Try.f16 rfl rfl rfl rfl rfl rfl rfl ⟨rfl, rfl, rfl, rfl, rfl⟩ rfl rfl rfl rfl rfl (by kernel_rfl) Try.func16 (by kernel_rfl)
    (of_decide_eq_true (by kernel_rfl)) (by unfold Func.isWrapper; first | (rw [if_pos (by decide +kernel)]; kernel_rfl) | (rw [if_neg (by decide +kernel)]; exact ⟨rfl, rfl⟩))
    (fun os started H enc _ F => lifted os started H enc F)
theorem flashFewest_holds : Rows.FlashFewestUptoSaid := over
end Go.Proofs.Ytkcbgpilfegofaa.flashFewest
