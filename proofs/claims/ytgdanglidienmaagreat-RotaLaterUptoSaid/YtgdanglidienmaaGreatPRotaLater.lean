/- RotaLater returns true for every input whose bulk is at most 1048576, and each argument reads afterwards as it read before. Conditions: none beyond the statement's own. -/
import Derived.Test.YtgdanglidienmaaGreatRows
import Derived.Test.YtgdanglidienmaaGreatBulk
import Derived.Test.YtgdanglidienmaaGreatKids
import Derived.Test.YtgdanglidienmaaGreatKRotaLater
import Derived.Test.YtgdanglidienmaaGreatRO
import Derived.Test.YtgdanglidienmaaGreatGvO
import Derived.WalkKit
import Derived.ProofKit
import Derived.OpenShut
import Derived.JoinedCond
namespace Go.Proofs.YtgdanglidienmaaGreat.rotaLater
open Go Go.ChangeShapes Go.WideShapes Go.ChangeAt Go.RowKit Go.Gv Go.Proofs.YtgdanglidienmaaGreat Go.Proofs.YtgdanglidienmaaGreat.bulks
set_option linter.unusedVariables false
set_option linter.unusedSimpArgs false
set_option maxRecDepth 100000 in
theorem contract (H : Type) (enc : TypeId × Value → H) (W : World) (base : Nat) (args : Array Value) (ds gs : List (DataW H)) (before : List MemPlace)
    (hval : ∀ (j : Nat) t v, Tryz.f8.params[j]? = some t → args[j]? = some v → Value.okWide Tryz.prog W .any base t v)
    (hW : DataW.Whole enc Tryz.prog Tryz.f8.params.toList Rows.rotaLaterSpec.vars false W args.toList ds gs before) (hk : Rows.uptoSmall H (ds ++ gs) = true) :
    Calls Tryz.prog 8 args W fun e W' => ∃ v, e = .returned v ∧ Rows.rotaLaterSpec.post enc Tryz.prog Tryz.f8 false true false false W args v W' := by
  have hW' := hW
  obtain ⟨p, q, hA0, hV, hpq, hfz, hnd⟩ := hW
  have hA : DataW.TrodAll enc Tryz.prog W 0 (fun _ => true) true Tryz.f8.params.toList args.toList ds p := hA0
  have hbulk := bulks.bound hk
  rw [Tryz.params8] at hA hval
  obtain ⟨v0, vs0, d0, ds0, p0, q0, hargs, rfl, rfl, h0, r0⟩ := trodAll_cons hA
  obtain ⟨v1, vs1, d1, ds1, p1, q1, rfl, rfl, rfl, h1, r1⟩ := trodAll_cons r0
  obtain ⟨v2, vs2, d2, ds2, p2, q2, rfl, rfl, rfl, h2, r2⟩ := trodAll_cons r1
  obtain ⟨v3, vs3, d3, ds3, p3, q3, rfl, rfl, rfl, h3, r3⟩ := trodAll_cons r2
  obtain ⟨v4, vs4, d4, ds4, p4, q4, rfl, rfl, rfl, h4, r4⟩ := trodAll_cons r3
  obtain ⟨rfl, rfl, rfl⟩ := trodAll_nil r4
  obtain rfl : args = ⟨[v0, v1, v2, v3, v4]⟩ := by cases args; simp_all
  obtain ⟨rfl, hq⟩ := trodVars_none hV
  obtain ⟨cs0, fu0, rfl, tr0⟩ := agg_open Tryz.underlying26 (hval 0 26 v0 rfl rfl) h0
  obtain ⟨u0_0, u0_1, u0_2, y0_0, y0_1, y0_2, m0, rfl, ed0, t0_0, t0_1, t0_2⟩ := trod_three Tryz.underlying26 (by kernel_rfl) ⟨rfl, rfl, rfl⟩ ⟨by kernel_rfl, by kernel_rfl, by kernel_rfl⟩ tr0
  dsimp only at ed0; subst ed0
  have hb0 := Nat.le_trans (bulks.part_le (d := DataW.agg [y0_0.1, y0_1.1, y0_2.1]) (by simp)) hbulk
  obtain ⟨a_nd, c_nd, nd, rfl, row_nd, wf_nd, b_nd⟩ := open_row_ints Tryz.underlying22 Tryz.underlying3 (by kernel_rfl) t0_0
  have hl_nd : nd.length ≤ 1048576 := bulks.ints_le b_nd (bulks.agg_part (d := y0_0.1) (by simp) hb0)
  obtain ⟨a_pl, c_pl, pl, rfl, row_pl, b_pl⟩ := open_row_wide (ce := PV.enc) Tryz.underlying23 (by kernel_rfl) PV.len (by decide) opens_PV t0_1
  have hl_pl : pl.length ≤ 1048576 := bulks.wide_le b_pl (bulks.agg_part (d := y0_1.1) (by simp) hb0)
  have ha_pl := bulks.wide_all b_pl (bulks.agg_part (d := y0_1.1) (by simp) hb0)
  obtain ⟨a_C, c_C, C, rfl, row_C, rw_C, b_C⟩ := open_row_rows Tryz.underlying24 Tryz.underlying22 Tryz.underlying3 (by kernel_rfl) (by kernel_rfl) t0_2
  have hl_C := bulks.rows_le b_C (bulks.agg_part (d := y0_2.1) (by simp) hb0)
  obtain ⟨a1, l1, c1, rfl⟩ := okWide_slice Tryz.underlying68 (hval 1 68 v1 rfl rfl)
  obtain ⟨fu1, t1⟩ := h1
  have t1 : DataW.trod enc Tryz.prog W 0 (fun _ => true) true fu1 68 [.slice a1 l1 c1] = some (d1, p1) := by simpa [Value.cells] using t1
  obtain ⟨a1, c1, xs1, e1, row1, wf1, b1⟩ := open_row_ints Tryz.underlying68 Tryz.underlying155 (by kernel_rfl) t1
  injection e1 with e11 e12 e13; subst e11; subst e12; subst e13
  have hl1 : xs1.length ≤ 1048576 := bulks.ints_le b1 (Nat.le_trans (bulks.part_le (d := d1) (by simp)) hbulk)
  obtain ⟨n2, e2, x2, y2, z2⟩ := open_int Tryz.underlying5 (hval 2 5 v2 rfl rfl) h2
  subst e2; subst x2
  obtain ⟨n3, e3, x3, y3, z3⟩ := open_int Tryz.underlying5 (hval 3 5 v3 rfl rfl) h3
  subst e3; subst x3
  obtain ⟨n4, e4, x4, y4, z4⟩ := open_int Tryz.underlying5 (hval 4 5 v4 rfl rfl) h4
  subst e4; subst x4
  refine Calls.mono (rotaLater_ret _ _ _ _ _ _ _ _ _ _ _ _ n2 n3 n4 W (po_args row_nd row_pl ha_pl row_C rw_C hl_nd hl_pl hl_C).1 (po_args row_nd row_pl ha_pl row_C rw_C hl_nd hl_pl hl_C).2 row1 (by omega) (fun x hx => u16_rng (wf1 x hx)) (u8_rng z2) (u8_rng z3) (u8_rng z4) : Ret Tryz.prog 8 _ W _) ?_
  rintro e W' ⟨v, rfl, rfl, hE⟩
  exact ⟨_, rfl, post_law kids full (by rw [Tryz.params8]; decide) rfl rfl Tryz.underlying4 hW' rfl rfl rfl hE⟩
set_option maxRecDepth 100000 in
theorem lifted (os : Os) (started : os.Started) (H : Type) (enc : TypeId × Value → H) (F : Stop.Interp) :
    ReturnsInHanded {} Tryz.checked os 8 .any ((Rows.OpenSpec.upto Rows.rotaLaterSpec).pre6 enc Tryz.prog Tryz.f8 Rows.rotaLaterUptoRow.domain false) (((Rows.OpenSpec.upto Rows.rotaLaterSpec).at F).post enc Tryz.prog Tryz.f8 false true false false) := by
  refine returnsInHanded_of_cond (C := Tryz.checked) (s := Rows.OpenSpec.upto Rows.rotaLaterSpec) (k := Rows.uptoSmall) rfl own started (by kernel_rfl) Tryz.func8
    (OpenSpec.witness (enc := enc) (C := Tryz.checked) (s := Rows.OpenSpec.upto Rows.rotaLaterSpec) (k := Rows.uptoSmall) rfl false ⟨#[], #[.agg #[.slice none 0 0, .slice none 0 0, .slice none 0 0], .slice none 0 0, .int .u8 0, .int .u8 0, .int .u8 0], []⟩ 8 (by kernel_rfl) (by kernel_rfl) (by kernel_rfl)
      (x := ([.agg [.nil, .nil, .nil], .nil, .lit (.int .u8 0), .lit (.int .u8 0), .lit (.int .u8 0)], [], [])) (by kernel_rfl) rfl (by kernel_rfl)) ?_
  intro W base args ds gs before hval hW _ hk _
  exact contract H enc W base args ds gs before hval hW hk
theorem over : Rows.rotaLaterUptoRow.holds Tryz.pinned (Rows.OpenSpec.upto Rows.rotaLaterSpec) :=
  OpenClaim.holds_of_cond 8 Tryz.f8 rfl rfl rfl rfl rfl rfl rfl ⟨rfl, rfl, rfl, rfl, rfl⟩ rfl rfl rfl rfl rfl (by kernel_rfl) Tryz.func8 (by kernel_rfl)
    (of_decide_eq_true (by kernel_rfl)) (by unfold Func.isWrapper; first | (rw [if_pos (by decide +kernel)]; kernel_rfl) | (rw [if_neg (by decide +kernel)]; exact ⟨rfl, rfl⟩))
    (fun os started H enc _ F => lifted os started H enc F)
theorem rotaLater_holds : Rows.RotaLaterUptoSaid := over
end Go.Proofs.YtgdanglidienmaaGreat.rotaLater
