/- RotaEasier returns true for every input whose bulk is at most 1048576, and each argument reads afterwards as it read before. Conditions: none beyond the statement's own. -/
import Derived.Test.YtgdanglidienmaaRows
import Derived.Test.YtgdanglidienmaaBulk
import Derived.Test.YtgdanglidienmaaKids
import Derived.Test.YtgdanglidienmaaKRotaEasier
import Derived.Test.YtgdanglidienmaaRO
import Derived.Test.YtgdanglidienmaaGvO
import Derived.WalkKit
import Derived.ProofKit
import Derived.OpenShut
import Derived.JoinedCond
namespace Go.Proofs.Ytgdanglidienmaa.rotaEasier
open Go Go.ChangeShapes Go.WideShapes Go.ChangeAt Go.RowKit Go.Gv Go.Proofs.Ytgdanglidienmaa Go.Proofs.Ytgdanglidienmaa.bulks
set_option linter.unusedVariables false
set_option linter.unusedSimpArgs false
set_option maxRecDepth 100000 in
theorem contract (H : Type) (enc : TypeId × Value → H) (W : World) (base : Nat) (args : Array Value) (ds gs : List (DataW H)) (before : List MemPlace)
    (hval : ∀ (j : Nat) t v, Try.f3.params[j]? = some t → args[j]? = some v → Value.okWide Try.prog W .any base t v)
    (hW : DataW.Whole enc Try.prog Try.f3.params.toList Rows.rotaEasierSpec.vars false W args.toList ds gs before) (hk : Rows.uptoSmall H (ds ++ gs) = true) :
    Calls Try.prog 3 args W fun e W' => ∃ v, e = .returned v ∧ Rows.rotaEasierSpec.post enc Try.prog Try.f3 false true false false W args v W' := by
  have hW' := hW
  obtain ⟨p, q, hA0, hV, hpq, hfz, hnd⟩ := hW
  have hA : DataW.TrodAll enc Try.prog W 0 (fun _ => true) true Try.f3.params.toList args.toList ds p := hA0
  have hbulk := bulks.bound hk
  rw [Try.params3] at hA hval
  obtain ⟨v0, vs0, d0, ds0, p0, q0, hargs, rfl, rfl, h0, r0⟩ := trodAll_cons hA
  obtain ⟨v1, vs1, d1, ds1, p1, q1, rfl, rfl, rfl, h1, r1⟩ := trodAll_cons r0
  obtain ⟨v2, vs2, d2, ds2, p2, q2, rfl, rfl, rfl, h2, r2⟩ := trodAll_cons r1
  obtain ⟨v3, vs3, d3, ds3, p3, q3, rfl, rfl, rfl, h3, r3⟩ := trodAll_cons r2
  obtain ⟨rfl, rfl, rfl⟩ := trodAll_nil r3
  obtain rfl : args = ⟨[v0, v1, v2, v3]⟩ := by cases args; simp_all
  obtain ⟨rfl, hq⟩ := trodVars_none hV
  obtain ⟨cs0, fu0, rfl, tr0⟩ := agg_open Try.underlying26 (hval 0 26 v0 rfl rfl) h0
  obtain ⟨u0_0, u0_1, u0_2, y0_0, y0_1, y0_2, m0, rfl, ed0, t0_0, t0_1, t0_2⟩ := trod_three Try.underlying26 (by kernel_rfl) ⟨rfl, rfl, rfl⟩ ⟨by kernel_rfl, by kernel_rfl, by kernel_rfl⟩ tr0
  dsimp only at ed0; subst ed0
  have hb0 := Nat.le_trans (bulks.part_le (d := DataW.agg [y0_0.1, y0_1.1, y0_2.1]) (by simp)) hbulk
  obtain ⟨a_nd, c_nd, nd, rfl, row_nd, wf_nd, b_nd⟩ := open_row_ints Try.underlying22 Try.underlying3 (by kernel_rfl) t0_0
  have hl_nd : nd.length ≤ 1048576 := bulks.ints_le b_nd (bulks.agg_part (d := y0_0.1) (by simp) hb0)
  obtain ⟨a_pl, c_pl, pl, rfl, row_pl, b_pl⟩ := open_row_wide (ce := PV.enc) Try.underlying23 (by kernel_rfl) PV.len (by decide) opens_PV t0_1
  have hl_pl : pl.length ≤ 1048576 := bulks.wide_le b_pl (bulks.agg_part (d := y0_1.1) (by simp) hb0)
  have ha_pl := bulks.wide_all b_pl (bulks.agg_part (d := y0_1.1) (by simp) hb0)
  obtain ⟨a_C, c_C, C, rfl, row_C, rw_C, b_C⟩ := open_row_rows Try.underlying24 Try.underlying22 Try.underlying3 (by kernel_rfl) (by kernel_rfl) t0_2
  have hl_C := bulks.rows_le b_C (bulks.agg_part (d := y0_2.1) (by simp) hb0)
  obtain ⟨n1, e1, x1, y1, z1⟩ := open_int Try.underlying5 (hval 1 5 v1 rfl rfl) h1
  subst e1; subst x1
  obtain ⟨n2, e2, x2, y2, z2⟩ := open_int Try.underlying5 (hval 2 5 v2 rfl rfl) h2
  subst e2; subst x2
  obtain ⟨n3, e3, x3, y3, z3⟩ := open_int Try.underlying5 (hval 3 5 v3 rfl rfl) h3
  subst e3; subst x3
  refine Calls.mono (rotaEasier_ret _ _ _ _ _ _ _ _ _ n1 n2 n3 W (po_args row_nd row_pl ha_pl row_C rw_C hl_nd hl_pl hl_C).1 (po_args row_nd row_pl ha_pl row_C rw_C hl_nd hl_pl hl_C).2 (u8_rng z1) (u8_rng z2) (u8_rng z3) : Ret Try.prog 3 _ W _) ?_
  rintro e W' ⟨v, rfl, rfl, hE⟩
  exact ⟨_, rfl, post_law kids full (by rw [Try.params3]; decide) rfl rfl Try.underlying4 hW' rfl rfl rfl hE⟩
set_option maxRecDepth 100000 in
theorem lifted (os : Os) (started : os.Started) (H : Type) (enc : TypeId × Value → H) (F : Stop.Interp) :
    ReturnsInHanded {} Try.checked os 3 .any ((Rows.OpenSpec.upto Rows.rotaEasierSpec).pre6 enc Try.prog Try.f3 Rows.rotaEasierUptoRow.domain false) (((Rows.OpenSpec.upto Rows.rotaEasierSpec).at F).post enc Try.prog Try.f3 false true false false) := by
  refine returnsInHanded_of_cond (C := Try.checked) (s := Rows.OpenSpec.upto Rows.rotaEasierSpec) (k := Rows.uptoSmall) rfl own started (by kernel_rfl) Try.func3
    (OpenSpec.witness (enc := enc) (C := Try.checked) (s := Rows.OpenSpec.upto Rows.rotaEasierSpec) (k := Rows.uptoSmall) rfl false ⟨#[], #[.agg #[.slice none 0 0, .slice none 0 0, .slice none 0 0], .int .u8 0, .int .u8 0, .int .u8 0], []⟩ 8 (by kernel_rfl) (by kernel_rfl) (by kernel_rfl)
      (x := ([.agg [.nil, .nil, .nil], .lit (.int .u8 0), .lit (.int .u8 0), .lit (.int .u8 0)], [], [])) (by kernel_rfl) rfl (by kernel_rfl)) ?_
  intro W base args ds gs before hval hW _ hk _
  exact contract H enc W base args ds gs before hval hW hk
theorem over : Rows.rotaEasierUptoRow.holds Try.pinned (Rows.OpenSpec.upto Rows.rotaEasierSpec) :=
  OpenClaim.holds_of_cond 3 Try.f3 rfl rfl rfl rfl rfl rfl rfl ⟨rfl, rfl, rfl, rfl, rfl⟩ rfl rfl rfl rfl rfl (by kernel_rfl) Try.func3 (by kernel_rfl)
    (of_decide_eq_true (by kernel_rfl)) (by unfold Func.isWrapper; first | (rw [if_pos (by decide +kernel)]; kernel_rfl) | (rw [if_neg (by decide +kernel)]; exact ⟨rfl, rfl⟩))
    (fun os started H enc _ F => lifted os started H enc F)
theorem rotaEasier_holds : Rows.RotaEasierUptoSaid := over
end Go.Proofs.Ytgdanglidienmaa.rotaEasier
