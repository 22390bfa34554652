/- TopManned returns true for every input whose bulk is at most 1048576, and each argument reads afterwards as it read before. Conditions: none beyond the statement's own. -/
import Derived.Test.YtbikicakdkbcgabGreatRows
import Derived.Test.YtbikicakdkbcgabGreatBulk
import Derived.Test.YtbikicakdkbcgabGreatKids
import Derived.Test.YtbikicakdkbcgabGreatKTopManned
import Derived.Test.YtbikicakdkbcgabGreatRO
import Derived.Test.YtbikicakdkbcgabGreatAO
import Derived.Test.YtbikicakdkbcgabGreatGvO
import Derived.WalkKit
import Derived.ProofKit
import Derived.OpenShut
import Derived.JoinedCond
namespace Go.Proofs.YtbikicakdkbcgabGreat.topManned
open Go Go.ChangeShapes Go.WideShapes Go.ChangeAt Go.RowKit Go.Gv Go.Proofs.YtbikicakdkbcgabGreat Go.Proofs.YtbikicakdkbcgabGreat.bulks
set_option linter.unusedVariables false
set_option linter.unusedSimpArgs false
set_option maxRecDepth 100000 in
theorem contract (H : Type) (enc : TypeId × Value → H) (W : World) (base : Nat) (args : Array Value) (ds gs : List (DataW H)) (before : List MemPlace)
    (hval : ∀ (j : Nat) t v, Tryz.f3.params[j]? = some t → args[j]? = some v → Value.okWide Tryz.prog W .any base t v)
    (hW : DataW.Whole enc Tryz.prog Tryz.f3.params.toList Rows.topMannedSpec.vars false W args.toList ds gs before) (hk : Rows.uptoSmall H (ds ++ gs) = true) :
    Calls Tryz.prog 3 args W fun e W' => ∃ v, e = .returned v ∧ Rows.topMannedSpec.post enc Tryz.prog Tryz.f3 false true false false W args v W' := by
  have hW' := hW
  obtain ⟨p, q, hA0, hV, hpq, hfz, hnd⟩ := hW
  have hA : DataW.TrodAll enc Tryz.prog W 0 (fun _ => true) true Tryz.f3.params.toList args.toList ds p := hA0
  have hbulk := bulks.bound hk
  rw [Tryz.params3] at hA hval
  obtain ⟨v0, vs0, d0, ds0, p0, q0, hargs, rfl, rfl, h0, r0⟩ := trodAll_cons hA
  obtain ⟨v1, vs1, d1, ds1, p1, q1, rfl, rfl, rfl, h1, r1⟩ := trodAll_cons r0
  obtain ⟨v2, vs2, d2, ds2, p2, q2, rfl, rfl, rfl, h2, r2⟩ := trodAll_cons r1
  obtain ⟨v3, vs3, d3, ds3, p3, q3, rfl, rfl, rfl, h3, r3⟩ := trodAll_cons r2
  obtain ⟨v4, vs4, d4, ds4, p4, q4, rfl, rfl, rfl, h4, r4⟩ := trodAll_cons r3
  obtain ⟨rfl, rfl, rfl⟩ := trodAll_nil r4
  obtain rfl : args = ⟨[v0, v1, v2, v3, v4]⟩ := by cases args; simp_all
  obtain ⟨rfl, hq⟩ := trodVars_none hV
  obtain ⟨cs0, fu0, rfl, tr0⟩ := agg_open Tryz.underlying26 (hval 0 26 v0 rfl rfl) h0
  obtain ⟨cap, can, s0, s1, a_ns, c_ns, ns, rfl, row_ns, hln⟩ := open_store8 tr0
  have hl_ns : ns.length ≤ 1048576 := hln _ (Nat.le_trans (bulks.part_le (d := d0) (by simp)) hbulk)
  obtain ⟨cs1, fu1, rfl, tr1⟩ := agg_open Tryz.underlying29 (hval 1 29 v1 rfl rfl) h1
  obtain ⟨u1_0, u1_1, y1_0, y1_1, m1, rfl, ed1, t1_0, t1_1⟩ := trod_two Tryz.underlying29 (by kernel_rfl) ⟨rfl, rfl⟩ ⟨by kernel_rfl, by kernel_rfl⟩ tr1
  dsimp only at ed1; subst ed1
  have hb1 := Nat.le_trans (bulks.part_le (d := DataW.agg [y1_0.1, y1_1.1]) (by simp)) hbulk
  obtain ⟨a_kcs, c_kcs, kcs, rfl, row_kcs, wf_kcs, b_kcs⟩ := open_row_ints Tryz.underlying27 Tryz.underlying3 (by kernel_rfl) t1_0
  have hl_kcs : kcs.length ≤ 1048576 := bulks.ints_le b_kcs (bulks.agg_part (d := y1_0.1) (by simp) hb1)
  obtain ⟨a_kvs, c_kvs, kvs, rfl, row_kvs, wf_kvs, b_kvs⟩ := open_row_ints Tryz.underlying27 Tryz.underlying3 (by kernel_rfl) t1_1
  have hl_kvs : kvs.length ≤ 1048576 := bulks.ints_le b_kvs (bulks.agg_part (d := y1_1.1) (by simp) hb1)
  obtain ⟨cs2, fu2, rfl, tr2⟩ := agg_open Tryz.underlying33 (hval 2 33 v2 rfl rfl) h2
  obtain ⟨u2_0, u2_1, u2_2, y2_0, y2_1, y2_2, m2, rfl, ed2, t2_0, t2_1, t2_2⟩ := trod_three Tryz.underlying33 (by kernel_rfl) ⟨rfl, rfl, rfl⟩ ⟨by kernel_rfl, by kernel_rfl, by kernel_rfl⟩ tr2
  dsimp only at ed2; subst ed2
  have hb2 := Nat.le_trans (bulks.part_le (d := DataW.agg [y2_0.1, y2_1.1, y2_2.1]) (by simp)) hbulk
  obtain ⟨a_nd, c_nd, nd, rfl, row_nd, wf_nd, b_nd⟩ := open_row_ints Tryz.underlying27 Tryz.underlying3 (by kernel_rfl) t2_0
  have hl_nd : nd.length ≤ 1048576 := bulks.ints_le b_nd (bulks.agg_part (d := y2_0.1) (by simp) hb2)
  obtain ⟨a_pl, c_pl, pl, rfl, row_pl, b_pl⟩ := open_row_wide (ce := PV.enc) Tryz.underlying30 (by kernel_rfl) PV.len (by decide) opens_PV t2_1
  have hl_pl : pl.length ≤ 1048576 := bulks.wide_le b_pl (bulks.agg_part (d := y2_1.1) (by simp) hb2)
  have ha_pl := bulks.wide_all b_pl (bulks.agg_part (d := y2_1.1) (by simp) hb2)
  obtain ⟨a_C, c_C, C, rfl, row_C, rw_C, b_C⟩ := open_row_rows Tryz.underlying31 Tryz.underlying27 Tryz.underlying3 (by kernel_rfl) (by kernel_rfl) t2_2
  have hl_C := bulks.rows_le b_C (bulks.agg_part (d := y2_2.1) (by simp) hb2)
  obtain ⟨a3, l3, c3, rfl⟩ := okWide_slice Tryz.underlying34 (hval 3 34 v3 rfl rfl)
  obtain ⟨fu3, t3⟩ := h3
  have t3 : DataW.trod enc Tryz.prog W 0 (fun _ => true) true fu3 34 [.slice a3 l3 c3] = some (d3, p3) := by simpa [Value.cells] using t3
  obtain ⟨a3, c3, xs3, e3, row3, wf3, b3⟩ := open_row_ints Tryz.underlying34 Tryz.underlying124 (by kernel_rfl) t3
  injection e3 with e31 e32 e33; subst e31; subst e32; subst e33
  have hl3 : xs3.length ≤ 1048576 := bulks.ints_le b3 (Nat.le_trans (bulks.part_le (d := d3) (by simp)) hbulk)
  obtain ⟨n4, e4, x4, y4, z4⟩ := open_int Tryz.underlying5 (hval 4 5 v4 rfl rfl) h4
  subst e4; subst x4
  refine Calls.mono (topManned_ret _ _ _ _ _ _ _ _ _ _ _ _ _ _ _ _ _ _ _ _ _ _ _ _ _ n4 W row_ns (by omega) row_kcs (by omega) (po_args row_nd row_pl ha_pl row_C rw_C hl_nd hl_pl hl_C).1 (po_args row_nd row_pl ha_pl row_C rw_C hl_nd hl_pl hl_C).2 row3 (by omega) (fun x hx => u16_rng (wf3 x hx)) (u8_rng z4) : Ret Tryz.prog 3 _ W _) ?_
  rintro e W' ⟨v, rfl, rfl, hE⟩
  exact ⟨_, rfl, post_law kids full (by rw [Tryz.params3]; decide) rfl rfl Tryz.underlying4 hW' rfl rfl rfl hE⟩
set_option maxRecDepth 100000 in
theorem lifted (os : Os) (started : os.Started) (H : Type) (enc : TypeId × Value → H) (F : Stop.Interp) :
    ReturnsInHanded {} Tryz.checked os 3 .any ((Rows.OpenSpec.upto Rows.topMannedSpec).pre6 enc Tryz.prog Tryz.f3 Rows.topMannedUptoRow.domain false) (((Rows.OpenSpec.upto Rows.topMannedSpec).at F).post enc Tryz.prog Tryz.f3 false true false false) := by
  refine returnsInHanded_of_cond (C := Tryz.checked) (s := Rows.OpenSpec.upto Rows.topMannedSpec) (k := Rows.uptoSmall) rfl own started (by kernel_rfl) Tryz.func3
    (OpenSpec.witness (enc := enc) (C := Tryz.checked) (s := Rows.OpenSpec.upto Rows.topMannedSpec) (k := Rows.uptoSmall) rfl false ⟨#[], #[.agg #[.int .i64 0, .int .i64 0, .int .i64 0, .int .i64 0, .slice none 0 0], .agg #[.slice none 0 0, .slice none 0 0], .agg #[.slice none 0 0, .slice none 0 0, .slice none 0 0], .slice none 0 0, .int .u8 0], []⟩ 8 (by kernel_rfl) (by kernel_rfl) (by kernel_rfl)
      (x := ([.agg [.lit (.int .i64 0), .lit (.int .i64 0), .agg [.lit (.int .i64 0), .lit (.int .i64 0)], .nil], .agg [.nil, .nil], .agg [.nil, .nil, .nil], .nil, .lit (.int .u8 0)], [], [])) (by kernel_rfl) rfl (by kernel_rfl)) ?_
  intro W base args ds gs before hval hW _ hk _
  exact contract H enc W base args ds gs before hval hW hk
theorem over : Rows.topMannedUptoRow.holds Tryz.pinned (Rows.OpenSpec.upto Rows.topMannedSpec) :=
  OpenClaim.holds_of_cond 3 Tryz.f3 rfl rfl rfl rfl rfl rfl rfl ⟨rfl, rfl, rfl, rfl, rfl⟩ rfl rfl rfl rfl rfl (by kernel_rfl) Tryz.func3 (by kernel_rfl)
    (of_decide_eq_true (by kernel_rfl)) (by unfold Func.isWrapper; first | (rw [if_pos (by decide +kernel)]; kernel_rfl) | (rw [if_neg (by decide +kernel)]; exact ⟨rfl, rfl⟩))
    (fun os started H enc _ F => lifted os started H enc F)
theorem topManned_holds : Rows.TopMannedUptoSaid := over
end Go.Proofs.YtbikicakdkbcgabGreat.topManned
