/- MaskFewest returns true for every input whose bulk is at most 1048576, and each argument reads afterwards as it read before. Conditions: none beyond the statement's own. -/
import Derived.Test.YtekkdhpgcilpdaaGreatRows
import Derived.Test.YtekkdhpgcilpdaaGreatBulk
import Derived.Test.YtekkdhpgcilpdaaGreatSort
import Derived.Test.YtekkdhpgcilpdaaGreatKMaskFewest
import Derived.Test.YtekkdhpgcilpdaaGreatMO
import Derived.Test.YtekkdhpgcilpdaaGreatGvO
import Derived.WalkKit
import Derived.ProofKit
import Derived.OpenShut
import Derived.JoinedCond
namespace Go.Proofs.YtekkdhpgcilpdaaGreat.maskFewest
open Go Go.ChangeShapes Go.WideShapes Go.ChangeAt Go.RowKit Go.Gv Go.Proofs.YtekkdhpgcilpdaaGreat Go.Proofs.YtekkdhpgcilpdaaGreat.bulks
set_option linter.unusedVariables false
set_option linter.unusedSimpArgs false
set_option maxRecDepth 100000 in
theorem contract (H : Type) (enc : TypeId × Value → H) (W : World) (base : Nat) (args : Array Value) (ds gs : List (DataW H)) (before : List MemPlace)
    (hval : ∀ (j : Nat) t v, Tryz.f16.params[j]? = some t → args[j]? = some v → Value.okWide Tryz.prog W .any base t v)
    (hW : DataW.Whole enc Tryz.prog Tryz.f16.params.toList Rows.maskFewestSpec.vars false W args.toList ds gs before) (hk : Rows.uptoSmall H (ds ++ gs) = true) :
    Calls Tryz.prog 16 args W fun e W' => ∃ v, e = .returned v ∧ Rows.maskFewestSpec.post enc Tryz.prog Tryz.f16 false true false false W args v W' := by
  have hW' := hW
  obtain ⟨p, q, hA0, hV, hpq, hfz, hnd⟩ := hW
  have hA : DataW.TrodAll enc Tryz.prog W 0 (fun _ => true) true Tryz.f16.params.toList args.toList ds p := hA0
  have hbulk := bulks.bound hk
  rw [Tryz.params16] at hA hval
  obtain ⟨v0, vs0, d0, ds0, p0, q0, hargs, rfl, rfl, h0, r0⟩ := trodAll_cons hA
  obtain ⟨v1, vs1, d1, ds1, p1, q1, rfl, rfl, rfl, h1, r1⟩ := trodAll_cons r0
  obtain ⟨v2, vs2, d2, ds2, p2, q2, rfl, rfl, rfl, h2, r2⟩ := trodAll_cons r1
  obtain ⟨v3, vs3, d3, ds3, p3, q3, rfl, rfl, rfl, h3, r3⟩ := trodAll_cons r2
  obtain ⟨rfl, rfl, rfl⟩ := trodAll_nil r3
  obtain rfl : args = ⟨[v0, v1, v2, v3]⟩ := by cases args; simp_all
  obtain ⟨rfl, hq⟩ := trodVars_none hV
  obtain ⟨cs0, fu0, rfl, tr0⟩ := agg_open Tryz.underlying29 (hval 0 29 v0 rfl rfl) h0
  obtain ⟨u0_0, u0_1, u0_2, u0_3, u0_4, y0_0, y0_1, y0_2, y0_3, y0_4, m0, rfl, ed0, t0_0, t0_1, t0_2, t0_3, t0_4⟩ := trod_five Tryz.underlying29 (by kernel_rfl) ⟨rfl, rfl, rfl, rfl, rfl⟩ ⟨by kernel_rfl, by kernel_rfl, by kernel_rfl, by kernel_rfl, by kernel_rfl⟩ tr0
  dsimp only at ed0; subst ed0
  have hb0 := Nat.le_trans (bulks.part_le (d := DataW.agg [y0_0.1, y0_1.1, y0_2.1, y0_3.1, y0_4.1]) (by simp)) hbulk
  obtain ⟨uu_co, yy_co, mm_co, eu_co, ey_co, tt_co⟩ := trod_one Tryz.underlying24 (by kernel_rfl) rfl (by kernel_rfl) t0_0
  injection eu_co with eu_co _; subst eu_co
  obtain ⟨a_co, c_co, co, rfl, row_co, b_co⟩ := open_row_strs Tryz.underlying22 Tryz.underlying9 (by kernel_rfl) tt_co
  have hl_co : co.length ≤ 1048576 ∧ ∀ s ∈ co, s.length ≤ 1048576 := bulks.code_le b_co (by have h := (bulks.agg_part (d := y0_0.1) (by simp) hb0); rwa [ey_co] at h)
  obtain ⟨er, rfl, _, z_er⟩ := open_num Tryz.underlying3 t0_1
  obtain ⟨a_se, c_se, se, rfl, row_se, wf_se, b_se⟩ := open_row_ints Tryz.underlying25 Tryz.underlying3 (by kernel_rfl) t0_2
  have hl_se : se.length ≤ 1048576 := bulks.ints_le b_se (bulks.agg_part (d := y0_2.1) (by simp) hb0)
  obtain ⟨a_sl, c_sl, sl, rfl, row_sl, b_sl⟩ := open_row_wide (ce := SN.enc) Tryz.underlying26 (by kernel_rfl) SN.len (by decide) opens_SN t0_3
  have hl_sl : sl.length ≤ 1048576 := bulks.wide_le b_sl (bulks.agg_part (d := y0_3.1) (by simp) hb0)
  have ha_sl := bulks.wide_all b_sl (bulks.agg_part (d := y0_3.1) (by simp) hb0)
  obtain ⟨a_rl, c_rl, rl, rfl, row_rl, b_rl⟩ := open_row_wide (ce := RC.enc) Tryz.underlying27 (by kernel_rfl) RC.len (by decide) opens_RC t0_4
  have hl_rl : rl.length ≤ 1048576 := bulks.wide_le b_rl (bulks.agg_part (d := y0_4.1) (by simp) hb0)
  have ha_rl := bulks.wide_all b_rl (bulks.agg_part (d := y0_4.1) (by simp) hb0)
  obtain ⟨a1, l1, c1, rfl⟩ := okWide_slice Tryz.underlying77 (hval 1 77 v1 rfl rfl)
  obtain ⟨fu1, t1⟩ := h1
  have t1 : DataW.trod enc Tryz.prog W 0 (fun _ => true) true fu1 77 [.slice a1 l1 c1] = some (d1, p1) := by simpa [Value.cells] using t1
  obtain ⟨a1, c1, xs1, e1, row1, wf1, b1⟩ := open_row_ints Tryz.underlying77 Tryz.underlying111 (by kernel_rfl) t1
  injection e1 with e11 e12 e13; subst e11; subst e12; subst e13
  have hl1 : xs1.length ≤ 1048576 := bulks.ints_le b1 (Nat.le_trans (bulks.part_le (d := d1) (by simp)) hbulk)
  obtain ⟨n2, e2, x2, y2, z2⟩ := open_int Tryz.underlying5 (hval 2 5 v2 rfl rfl) h2
  subst e2; subst x2
  obtain ⟨a3, l3, c3, rfl⟩ := okWide_slice Tryz.underlying25 (hval 3 25 v3 rfl rfl)
  obtain ⟨fu3, t3⟩ := h3
  have t3 : DataW.trod enc Tryz.prog W 0 (fun _ => true) true fu3 25 [.slice a3 l3 c3] = some (d3, p3) := by simpa [Value.cells] using t3
  obtain ⟨a3, c3, xs3, e3, row3, wf3, b3⟩ := open_row_ints Tryz.underlying25 Tryz.underlying3 (by kernel_rfl) t3
  injection e3 with e31 e32 e33; subst e31; subst e32; subst e33
  have hl3 : xs3.length ≤ 1048576 := bulks.ints_le b3 (Nat.le_trans (bulks.part_le (d := d3) (by simp)) hbulk)
  refine Calls.mono (maskFewest_ret _ _ _ _ _ _ _ _ _ _ _ _ _ _ _ _ n2 _ _ _ W (lg_args row_co row_se row_sl ha_sl row_rl ha_rl hl_co hl_se hl_sl hl_rl (i64_rng z_er)).1 (lg_args row_co row_se row_sl ha_sl row_rl ha_rl hl_co hl_se hl_sl hl_rl (i64_rng z_er)).2 row1 (by omega) (fun x hx => u16_rng (wf1 x hx)) (u8_rng z2) row3 (by omega) : Ret Tryz.prog 16 _ W _) ?_
  rintro e W' ⟨v, rfl, rfl, hE⟩
  exact ⟨_, rfl, post_law kids full (by rw [Tryz.params16]; decide) rfl rfl Tryz.underlying4 hW' rfl rfl rfl hE⟩
set_option maxRecDepth 100000 in
theorem lifted (os : Os) (started : os.Started) (H : Type) (enc : TypeId × Value → H) (F : Stop.Interp) :
    ReturnsInHanded {} Tryz.checked os 16 .any ((Rows.OpenSpec.upto Rows.maskFewestSpec).pre6 enc Tryz.prog Tryz.f16 Rows.maskFewestUptoRow.domain false) (((Rows.OpenSpec.upto Rows.maskFewestSpec).at F).post enc Tryz.prog Tryz.f16 false true false false) := by
  refine returnsInHanded_of_cond (C := Tryz.checked) (s := Rows.OpenSpec.upto Rows.maskFewestSpec) (k := Rows.uptoSmall) rfl own started (by kernel_rfl) Tryz.func16
    (OpenSpec.witness (enc := enc) (C := Tryz.checked) (s := Rows.OpenSpec.upto Rows.maskFewestSpec) (k := Rows.uptoSmall) rfl false ⟨#[], #[.agg #[.slice none 0 0, .int .i64 0, .slice none 0 0, .slice none 0 0, .slice none 0 0], .slice none 0 0, .int .u8 0, .slice none 0 0], []⟩ 8 (by kernel_rfl) (by kernel_rfl) (by kernel_rfl)
      (x := ([.agg [.agg [.nil], .lit (.int .i64 0), .nil, .nil, .nil], .nil, .lit (.int .u8 0), .nil], [], [])) (by kernel_rfl) rfl (by kernel_rfl)) ?_
  intro W base args ds gs before hval hW _ hk _
  exact contract H enc W base args ds gs before hval hW hk
theorem over : Rows.maskFewestUptoRow.holds Tryz.pinned (Rows.OpenSpec.upto Rows.maskFewestSpec) :=
  OpenClaim.holds_of_cond 16 Tryz.f16 rfl rfl rfl rfl rfl rfl rfl ⟨rfl, rfl, rfl, rfl, rfl⟩ rfl rfl rfl rfl rfl (by kernel_rfl) Tryz.func16 (by kernel_rfl)
    (of_decide_eq_true (by kernel_rfl)) (by unfold Func.isWrapper; first | (rw [if_pos (by decide +kernel)]; kernel_rfl) | (rw [if_neg (by decide +kernel)]; exact ⟨rfl, rfl⟩))
    (fun os started H enc _ F => lifted os started H enc F)
theorem maskFewest_holds : Rows.MaskFewestUptoSaid := over
end Go.Proofs.YtekkdhpgcilpdaaGreat.maskFewest
