/- TopCoded returns true for every input whose bulk is at most 1048576, and each argument reads afterwards as it read before. Conditions: none beyond the statement's own. -/
import Derived.Test.YtfbjllabgkabkaaRows
import Derived.Test.YtfbjllabgkabkaaBulk
import Derived.Test.YtfbjllabgkabkaaKids
import Derived.Test.YtfbjllabgkabkaaC5
import Derived.Test.YtfbjllabgkabkaaGvO
import Derived.WalkKit
import Derived.ProofKit
import Derived.OpenShut
import Derived.JoinedCond
namespace Go.Proofs.Ytfbjllabgkabkaa.topCoded
open Go Go.ChangeShapes Go.WideShapes Go.ChangeAt Go.RowKit Go.Gv Go.Proofs.Ytfbjllabgkabkaa Go.Proofs.Ytfbjllabgkabkaa.bulks
set_option linter.unusedVariables false
set_option linter.unusedSimpArgs false
set_option maxRecDepth 100000 in
theorem contract (H : Type) (enc : TypeId × Value → H) (W : World) (base : Nat) (args : Array Value) (ds gs : List (DataW H)) (before : List MemPlace)
    (hval : ∀ (j : Nat) t v, Try.f3.params[j]? = some t → args[j]? = some v → Value.okWide Try.prog W .any base t v)
    (hW : DataW.Whole enc Try.prog Try.f3.params.toList Rows.topCodedSpec.vars false W args.toList ds gs before) (hk : Rows.uptoSmall H (ds ++ gs) = true) :
    Calls Try.prog 3 args W fun e W' => ∃ v, e = .returned v ∧ Rows.topCodedSpec.post enc Try.prog Try.f3 false true false false W args v W' := by
  have hW' := hW
  obtain ⟨p, q, hA0, hV, hpq, hfz, hnd⟩ := hW
  have hA : DataW.TrodAll enc Try.prog W 0 (fun _ => true) true Try.f3.params.toList args.toList ds p := hA0
  have hbulk := bulks.bound hk
  rw [Try.params3] at hA hval
  obtain ⟨v0, vs0, d0, ds0, p0, q0, hargs, rfl, rfl, h0, r0⟩ := trodAll_cons hA
  obtain ⟨v1, vs1, d1, ds1, p1, q1, rfl, rfl, rfl, h1, r1⟩ := trodAll_cons r0
  obtain ⟨v2, vs2, d2, ds2, p2, q2, rfl, rfl, rfl, h2, r2⟩ := trodAll_cons r1
  obtain ⟨v3, vs3, d3, ds3, p3, q3, rfl, rfl, rfl, h3, r3⟩ := trodAll_cons r2
  obtain ⟨v4, vs4, d4, ds4, p4, q4, rfl, rfl, rfl, h4, r4⟩ := trodAll_cons r3
  obtain ⟨v5, vs5, d5, ds5, p5, q5, rfl, rfl, rfl, h5, r5⟩ := trodAll_cons r4
  obtain ⟨v6, vs6, d6, ds6, p6, q6, rfl, rfl, rfl, h6, r6⟩ := trodAll_cons r5
  obtain ⟨rfl, rfl, rfl⟩ := trodAll_nil r6
  obtain rfl : args = ⟨[v0, v1, v2, v3, v4, v5, v6]⟩ := by cases args; simp_all
  obtain ⟨rfl, hq⟩ := trodVars_none hV
  obtain ⟨u0, y0, m0, rfl, rfl, t0⟩ := open_one Try.underlying24 (by kernel_rfl) ⟨rfl, by kernel_rfl⟩ (hval 0 24 v0 rfl rfl) h0
  obtain ⟨a0, c0, xs0, rfl, row0, b0⟩ := open_row_strs Try.underlying22 Try.underlying9 (by kernel_rfl) t0
  have hl0 : xs0.length ≤ 1048576 ∧ ∀ s ∈ xs0, s.length ≤ 1048576 := bulks.code_le b0 (Nat.le_trans (bulks.part_le (d := DataW.agg [y0.1]) (by simp)) hbulk)
  obtain ⟨cs1, fu1, rfl, tr1⟩ := agg_open Try.underlying28 (hval 1 28 v1 rfl rfl) h1
  obtain ⟨u1_0, u1_1, u1_2, u1_3, y1_0, y1_1, y1_2, y1_3, m1, rfl, ed1, t1_0, t1_1, t1_2, t1_3⟩ := trod_four Try.underlying28 (by kernel_rfl) ⟨rfl, rfl, rfl, rfl⟩ ⟨by kernel_rfl, by kernel_rfl, by kernel_rfl, by kernel_rfl⟩ tr1
  dsimp only at ed1; subst ed1
  have hb1 := Nat.le_trans (bulks.part_le (d := DataW.agg [y1_0.1, y1_1.1, y1_2.1, y1_3.1]) (by simp)) hbulk
  obtain ⟨Sz, rfl, _, z_Sz⟩ := open_num Try.underlying3 t1_0
  obtain ⟨Wd, rfl, _, z_Wd⟩ := open_num Try.underlying3 t1_1
  obtain ⟨a_kys, c_kys, kys, rfl, row_kys, b_kys⟩ := open_row_wide (ce := K3.enc) Try.underlying25 (by kernel_rfl) K3.len (by decide) opens_K3 t1_2
  have hl_kys : kys.length ≤ 1048576 := bulks.wide_le b_kys (bulks.agg_part (d := y1_2.1) (by simp) hb1)
  have ha_kys := bulks.wide_all b_kys (bulks.agg_part (d := y1_2.1) (by simp) hb1)
  obtain ⟨a_dys, c_dys, dys, rfl, row_dys, wf_dys, b_dys⟩ := open_row_ints Try.underlying26 Try.underlying3 (by kernel_rfl) t1_3
  have hl_dys : dys.length ≤ 1048576 := bulks.ints_le b_dys (bulks.agg_part (d := y1_3.1) (by simp) hb1)
  obtain ⟨a2, l2, c2, rfl⟩ := okWide_slice Try.underlying26 (hval 2 26 v2 rfl rfl)
  obtain ⟨fu2, t2⟩ := h2
  have t2 : DataW.trod enc Try.prog W 0 (fun _ => true) true fu2 26 [.slice a2 l2 c2] = some (d2, p2) := by simpa [Value.cells] using t2
  obtain ⟨a2, c2, xs2, e2, row2, wf2, b2⟩ := open_row_ints Try.underlying26 Try.underlying3 (by kernel_rfl) t2
  injection e2 with e21 e22 e23; subst e21; subst e22; subst e23
  have hl2 : xs2.length ≤ 1048576 := bulks.ints_le b2 (Nat.le_trans (bulks.part_le (d := d2) (by simp)) hbulk)
  obtain ⟨a3, l3, c3, rfl⟩ := okWide_slice Try.underlying29 (hval 3 29 v3 rfl rfl)
  obtain ⟨fu3, t3⟩ := h3
  have t3 : DataW.trod enc Try.prog W 0 (fun _ => true) true fu3 29 [.slice a3 l3 c3] = some (d3, p3) := by simpa [Value.cells] using t3
  obtain ⟨a3, c3, xs3, e3, row3, wf3, b3⟩ := open_row_ints Try.underlying29 Try.underlying105 (by kernel_rfl) t3
  injection e3 with e31 e32 e33; subst e31; subst e32; subst e33
  have hl3 : xs3.length ≤ 1048576 := bulks.ints_le b3 (Nat.le_trans (bulks.part_le (d := d3) (by simp)) hbulk)
  obtain ⟨n4, e4, x4, y4, z4⟩ := open_int Try.underlying5 (hval 4 5 v4 rfl rfl) h4
  subst e4; subst x4
  obtain ⟨n5, e5, x5, y5, z5⟩ := open_int Try.underlying5 (hval 5 5 v5 rfl rfl) h5
  subst e5; subst x5
  obtain ⟨n6, e6, x6, y6, z6⟩ := open_int Try.underlying5 (hval 6 5 v6 rfl rfl) h6
  subst e6; subst x6
  refine Calls.mono (topCoded_ret _ _ _ _ _ _ _ _ _ _ _ _ _ _ _ _ _ n4 n5 n6 W row0 (by omega) row_kys row_dys (by omega) (by omega) row2 (by omega) row3 (by omega) (fun x hx => u16_rng (wf3 x hx)) (u8_rng z4) (u8_rng z5) (u8_rng z6) : Ret Try.prog 3 _ W _) ?_
  rintro e W' ⟨v, rfl, rfl, hE⟩
  exact ⟨_, rfl, post_law kids full (by rw [Try.params3]; decide) rfl rfl Try.underlying4 hW' rfl rfl rfl hE⟩
set_option maxRecDepth 100000 in
theorem lifted (os : Os) (started : os.Started) (H : Type) (enc : TypeId × Value → H) (F : Stop.Interp) :
    ReturnsInHanded {} Try.checked os 3 .any ((Rows.OpenSpec.upto Rows.topCodedSpec).pre6 enc Try.prog Try.f3 Rows.topCodedUptoRow.domain false) (((Rows.OpenSpec.upto Rows.topCodedSpec).at F).post enc Try.prog Try.f3 false true false false) := by
  refine returnsInHanded_of_cond (C := Try.checked) (s := Rows.OpenSpec.upto Rows.topCodedSpec) (k := Rows.uptoSmall) rfl own started (by kernel_rfl) Try.func3
    (OpenSpec.witness (enc := enc) (C := Try.checked) (s := Rows.OpenSpec.upto Rows.topCodedSpec) (k := Rows.uptoSmall) rfl false ⟨#[], #[.agg #[.slice none 0 0], .agg #[.int .i64 0, .int .i64 0, .slice none 0 0, .slice none 0 0], .slice none 0 0, .slice none 0 0, .int .u8 0, .int .u8 0, .int .u8 0], []⟩ 8 (by kernel_rfl) (by kernel_rfl) (by kernel_rfl)
      (x := ([.agg [.nil], .agg [.lit (.int .i64 0), .lit (.int .i64 0), .nil, .nil], .nil, .nil, .lit (.int .u8 0), .lit (.int .u8 0), .lit (.int .u8 0)], [], [])) (by kernel_rfl) rfl (by kernel_rfl)) ?_
  intro W base args ds gs before hval hW _ hk _
  exact contract H enc W base args ds gs before hval hW hk
theorem over : Rows.topCodedUptoRow.holds Try.pinned (Rows.OpenSpec.upto Rows.topCodedSpec) :=
  OpenClaim.holds_of_cond 3 Try.f3 rfl rfl rfl rfl rfl rfl rfl ⟨rfl, rfl, rfl, rfl, rfl⟩ rfl rfl rfl rfl rfl (by kernel_rfl) Try.func3 (by kernel_rfl)
    (of_decide_eq_true (by kernel_rfl)) (by unfold Func.isWrapper; first | (rw [if_pos (by decide +kernel)]; kernel_rfl) | (rw [if_neg (by decide +kernel)]; exact ⟨rfl, rfl⟩))
    (fun os started H enc _ F => lifted os started H enc F)
theorem topCoded_holds : Rows.TopCodedUptoSaid := over
end Go.Proofs.Ytfbjllabgkabkaa.topCoded
