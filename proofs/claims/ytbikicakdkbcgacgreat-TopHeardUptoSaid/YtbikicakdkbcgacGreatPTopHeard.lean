/- TopHeard returns true for every input whose bulk is at most 1048576, and each argument reads afterwards as it read before. Conditions: none beyond the statement's own. -/
import Derived.Test.YtbikicakdkbcgacGreatRows
import Derived.Test.YtbikicakdkbcgacGreatBulk
import Derived.Test.YtbikicakdkbcgacGreatKids
import Derived.Test.YtbikicakdkbcgacGreatKTopHeard
import Derived.Test.YtbikicakdkbcgacGreatHO
import Derived.Test.YtbikicakdkbcgacGreatGvO
import Derived.WalkKit
import Derived.ProofKit
import Derived.OpenShut
import Derived.JoinedCond
namespace Go.Proofs.YtbikicakdkbcgacGreat.topHeard
open Go Go.ChangeShapes Go.WideShapes Go.ChangeAt Go.RowKit Go.Gv Go.Proofs.YtbikicakdkbcgacGreat Go.Proofs.YtbikicakdkbcgacGreat.bulks
set_option linter.unusedVariables false
set_option linter.unusedSimpArgs false
set_option maxRecDepth 100000 in
theorem contract (H : Type) (enc : TypeId × Value → H) (W : World) (base : Nat) (args : Array Value) (ds gs : List (DataW H)) (before : List MemPlace)
    (hval : ∀ (j : Nat) t v, Tryz.f3.params[j]? = some t → args[j]? = some v → Value.okWide Tryz.prog W .any base t v)
    (hW : DataW.Whole enc Tryz.prog Tryz.f3.params.toList Rows.topHeardSpec.vars false W args.toList ds gs before) (hk : Rows.uptoSmall H (ds ++ gs) = true) :
    Calls Tryz.prog 3 args W fun e W' => ∃ v, e = .returned v ∧ Rows.topHeardSpec.post enc Tryz.prog Tryz.f3 false true false false W args v W' := by
  have hW' := hW
  obtain ⟨p, q, hA0, hV, hpq, hfz, hnd⟩ := hW
  have hA : DataW.TrodAll enc Tryz.prog W 0 (fun _ => true) true Tryz.f3.params.toList args.toList ds p := hA0
  have hbulk := bulks.bound hk
  rw [Tryz.params3] at hA hval
  obtain ⟨v0, vs0, d0, ds0, p0, q0, hargs, rfl, rfl, h0, r0⟩ := trodAll_cons hA
  obtain ⟨v1, vs1, d1, ds1, p1, q1, rfl, rfl, rfl, h1, r1⟩ := trodAll_cons r0
  obtain ⟨v2, vs2, d2, ds2, p2, q2, rfl, rfl, rfl, h2, r2⟩ := trodAll_cons r1
  obtain ⟨v3, vs3, d3, ds3, p3, q3, rfl, rfl, rfl, h3, r3⟩ := trodAll_cons r2
  obtain ⟨v4, vs4, d4, ds4, p4, q4, rfl, rfl, rfl, h4, r4⟩ := trodAll_cons r3
  obtain ⟨v5, vs5, d5, ds5, p5, q5, rfl, rfl, rfl, h5, r5⟩ := trodAll_cons r4
  obtain ⟨v6, vs6, d6, ds6, p6, q6, rfl, rfl, rfl, h6, r6⟩ := trodAll_cons r5
  obtain ⟨rfl, rfl, rfl⟩ := trodAll_nil r6
  obtain rfl : args = ⟨[v0, v1, v2, v3, v4, v5, v6]⟩ := by cases args; simp_all
  obtain ⟨rfl, hq⟩ := trodVars_none hV
  obtain ⟨cs0, fu0, rfl, tr0⟩ := agg_open Tryz.underlying27 (hval 0 27 v0 rfl rfl) h0
  obtain ⟨sa, sc, sl, ra, rc, rl, ka, kc, kl, ua, uc, ul, rfl, hland, hlm⟩ := open_land tr0
  have hlbig := hlm _ (Nat.le_trans (bulks.part_le (d := d0) (by simp)) hbulk) (by decide)
  obtain ⟨u1, y1, m1, rfl, rfl, t1⟩ := open_one Tryz.underlying30 (by kernel_rfl) ⟨rfl, by kernel_rfl⟩ (hval 1 30 v1 rfl rfl) h1
  obtain ⟨a1, c1, xs1, rfl, row1, b1⟩ := open_row_strs Tryz.underlying28 Tryz.underlying9 (by kernel_rfl) t1
  have hl1 : xs1.length ≤ 1048576 ∧ ∀ s ∈ xs1, s.length ≤ 1048576 := bulks.code_le b1 (Nat.le_trans (bulks.part_le (d := DataW.agg [y1.1]) (by simp)) hbulk)
  obtain ⟨a2, l2, c2, rfl⟩ := okWide_slice Tryz.underlying31 (hval 2 31 v2 rfl rfl)
  obtain ⟨fu2, t2⟩ := h2
  have t2 : DataW.trod enc Tryz.prog W 0 (fun _ => true) true fu2 31 [.slice a2 l2 c2] = some (d2, p2) := by simpa [Value.cells] using t2
  obtain ⟨a2, c2, xs2, e2, row2, wf2, b2⟩ := open_row_ints Tryz.underlying31 Tryz.underlying3 (by kernel_rfl) t2
  injection e2 with e21 e22 e23; subst e21; subst e22; subst e23
  have hl2 : xs2.length ≤ 1048576 := bulks.ints_le b2 (Nat.le_trans (bulks.part_le (d := d2) (by simp)) hbulk)
  obtain ⟨n3, e3, x3, y3, z3⟩ := open_int Tryz.underlying5 (hval 3 5 v3 rfl rfl) h3
  subst e3; subst x3
  obtain ⟨n4, e4, x4, y4, z4⟩ := open_int Tryz.underlying5 (hval 4 5 v4 rfl rfl) h4
  subst e4; subst x4
  obtain ⟨n5, e5, x5, y5, z5⟩ := open_int Tryz.underlying5 (hval 5 5 v5 rfl rfl) h5
  subst e5; subst x5
  obtain ⟨n6, e6, x6, y6, z6⟩ := open_int Tryz.underlying5 (hval 6 5 v6 rfl rfl) h6
  subst e6; subst x6
  refine Calls.mono (topHeard_ret _ _ _ _ _ _ _ _ _ _ _ _ _ _ _ _ _ _ n3 n4 n5 n6 W hland hlbig row1 (by omega) (fun s hs => by have := hl1.2 s hs; omega) row2 (by omega) (u8_rng z3) (u8_rng z4) (u8_rng z5) (u8_rng z6) : Ret Tryz.prog 3 _ W _) ?_
  rintro e W' ⟨v, rfl, rfl, hE⟩
  exact ⟨_, rfl, post_law kids full (by rw [Tryz.params3]; decide) rfl rfl Tryz.underlying4 hW' rfl rfl rfl hE⟩
set_option maxRecDepth 100000 in
theorem lifted (os : Os) (started : os.Started) (H : Type) (enc : TypeId × Value → H) (F : Stop.Interp) :
    ReturnsInHanded {} Tryz.checked os 3 .any ((Rows.OpenSpec.upto Rows.topHeardSpec).pre6 enc Tryz.prog Tryz.f3 Rows.topHeardUptoRow.domain false) (((Rows.OpenSpec.upto Rows.topHeardSpec).at F).post enc Tryz.prog Tryz.f3 false true false false) := by
  refine returnsInHanded_of_cond (C := Tryz.checked) (s := Rows.OpenSpec.upto Rows.topHeardSpec) (k := Rows.uptoSmall) rfl own started (by kernel_rfl) Tryz.func3
    (OpenSpec.witness (enc := enc) (C := Tryz.checked) (s := Rows.OpenSpec.upto Rows.topHeardSpec) (k := Rows.uptoSmall) rfl false ⟨#[], #[.agg #[.slice none 0 0, .slice none 0 0, .slice none 0 0, .slice none 0 0], .agg #[.slice none 0 0], .slice none 0 0, .int .u8 0, .int .u8 0, .int .u8 0, .int .u8 0], []⟩ 8 (by kernel_rfl) (by kernel_rfl) (by kernel_rfl)
      (x := ([.agg [.nil, .nil, .nil, .nil], .agg [.nil], .nil, .lit (.int .u8 0), .lit (.int .u8 0), .lit (.int .u8 0), .lit (.int .u8 0)], [], [])) (by kernel_rfl) rfl (by kernel_rfl)) ?_
  intro W base args ds gs before hval hW _ hk _
  exact contract H enc W base args ds gs before hval hW hk
theorem over : Rows.topHeardUptoRow.holds Tryz.pinned (Rows.OpenSpec.upto Rows.topHeardSpec) :=
  OpenClaim.holds_of_cond 3 Tryz.f3 rfl rfl rfl rfl rfl rfl rfl ⟨rfl, rfl, rfl, rfl, rfl⟩ rfl rfl rfl rfl rfl (by kernel_rfl) Tryz.func3 (by kernel_rfl)
    (of_decide_eq_true (by kernel_rfl)) (by unfold Func.isWrapper; first | (rw [if_pos (by decide +kernel)]; kernel_rfl) | (rw [if_neg (by decide +kernel)]; exact ⟨rfl, rfl⟩))
    (fun os started H enc _ F => lifted os started H enc F)
theorem topHeard_holds : Rows.TopHeardUptoSaid := over
end Go.Proofs.YtbikicakdkbcgacGreat.topHeard
