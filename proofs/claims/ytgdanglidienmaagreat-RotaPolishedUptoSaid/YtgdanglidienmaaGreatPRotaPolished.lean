/- RotaPolished returns true for every input whose bulk is at most 1048576, and each argument reads afterwards as it read before. Conditions: none beyond the statement's own. -/
import Derived.Test.YtgdanglidienmaaGreatRows
import Derived.Test.YtgdanglidienmaaGreatBulk
import Derived.Test.YtgdanglidienmaaGreatKids
import Derived.Test.YtgdanglidienmaaGreatKRotaPolished
import Derived.Test.YtgdanglidienmaaGreatRO
import Derived.Test.YtgdanglidienmaaGreatGvO
import Derived.WalkKit
import Derived.ProofKit
import Derived.OpenShut
import Derived.JoinedCond
namespace Go.Proofs.YtgdanglidienmaaGreat.rotaPolished
open Go Go.ChangeShapes Go.WideShapes Go.ChangeAt Go.RowKit Go.Gv Go.Proofs.YtgdanglidienmaaGreat Go.Proofs.YtgdanglidienmaaGreat.bulks
set_option linter.unusedVariables false
set_option linter.unusedSimpArgs false
set_option maxRecDepth 100000 in
theorem contract (H : Type) (enc : TypeId × Value → H) (W : World) (base : Nat) (args : Array Value) (ds gs : List (DataW H)) (before : List MemPlace)
    (hval : ∀ (j : Nat) t v, Tryz.f10.params[j]? = some t → args[j]? = some v → Value.okWide Tryz.prog W .any base t v)
    (hW : DataW.Whole enc Tryz.prog Tryz.f10.params.toList Rows.rotaPolishedSpec.vars false W args.toList ds gs before) (hk : Rows.uptoSmall H (ds ++ gs) = true) :
    Calls Tryz.prog 10 args W fun e W' => ∃ v, e = .returned v ∧ Rows.rotaPolishedSpec.post enc Tryz.prog Tryz.f10 false true false false W args v W' := by
  have hW' := hW
  obtain ⟨p, q, hA0, hV, hpq, hfz, hnd⟩ := hW
  have hA : DataW.TrodAll enc Tryz.prog W 0 (fun _ => true) true Tryz.f10.params.toList args.toList ds p := hA0
  have hbulk := bulks.bound hk
  rw [Tryz.params10] at hA hval
  obtain ⟨v0, vs0, d0, ds0, p0, q0, hargs, rfl, rfl, h0, r0⟩ := trodAll_cons hA
  obtain ⟨v1, vs1, d1, ds1, p1, q1, rfl, rfl, rfl, h1, r1⟩ := trodAll_cons r0
  obtain ⟨v2, vs2, d2, ds2, p2, q2, rfl, rfl, rfl, h2, r2⟩ := trodAll_cons r1
  obtain ⟨v3, vs3, d3, ds3, p3, q3, rfl, rfl, rfl, h3, r3⟩ := trodAll_cons r2
  obtain ⟨v4, vs4, d4, ds4, p4, q4, rfl, rfl, rfl, h4, r4⟩ := trodAll_cons r3
  obtain ⟨rfl, rfl, rfl⟩ := trodAll_nil r4
  obtain rfl : args = ⟨[v0, v1, v2, v3, v4]⟩ := by cases args; simp_all
  obtain ⟨rfl, hq⟩ := trodVars_none hV
  obtain ⟨cs0, fu0, rfl, tr0⟩ := agg_open Tryz.underlying51 (hval 0 51 v0 rfl rfl) h0
  obtain ⟨u0_0, u0_1, y0_0, y0_1, m0, rfl, ed0, t0_0, t0_1⟩ := trod_two Tryz.underlying51 (by kernel_rfl) ⟨rfl, rfl⟩ ⟨by kernel_rfl, by kernel_rfl⟩ tr0
  dsimp only at ed0; subst ed0
  have hb0 := Nat.le_trans (bulks.part_le (d := DataW.agg [y0_0.1, y0_1.1]) (by simp)) hbulk
  obtain ⟨fl, rfl, _, z_fl⟩ := open_num Tryz.underlying3 t0_0
  obtain ⟨a_G, c_G, G, rfl, row_G, b_G⟩ := open_row_wide (ce := RG.enc) Tryz.underlying49 (by kernel_rfl) RG.len (by decide) opens_RG t0_1
  have hl_G : G.length ≤ 1048576 := bulks.wide_le b_G (bulks.agg_part (d := y0_1.1) (by simp) hb0)
  have ha_G := bulks.wide_all b_G (bulks.agg_part (d := y0_1.1) (by simp) hb0)
  obtain ⟨n1, e1, x1, y1, z1⟩ := open_int Tryz.underlying5 (hval 1 5 v1 rfl rfl) h1
  subst e1; subst x1
  obtain ⟨a2, l2, c2, rfl⟩ := okWide_slice Tryz.underlying68 (hval 2 68 v2 rfl rfl)
  obtain ⟨fu2, t2⟩ := h2
  have t2 : DataW.trod enc Tryz.prog W 0 (fun _ => true) true fu2 68 [.slice a2 l2 c2] = some (d2, p2) := by simpa [Value.cells] using t2
  obtain ⟨a2, c2, xs2, e2, row2, wf2, b2⟩ := open_row_ints Tryz.underlying68 Tryz.underlying155 (by kernel_rfl) t2
  injection e2 with e21 e22 e23; subst e21; subst e22; subst e23
  have hl2 : xs2.length ≤ 1048576 := bulks.ints_le b2 (Nat.le_trans (bulks.part_le (d := d2) (by simp)) hbulk)
  obtain ⟨n3, e3, x3, y3, z3⟩ := open_int Tryz.underlying5 (hval 3 5 v3 rfl rfl) h3
  subst e3; subst x3
  obtain ⟨n4, e4, x4, y4, z4⟩ := open_int Tryz.underlying5 (hval 4 5 v4 rfl rfl) h4
  subst e4; subst x4
  refine Calls.mono (rotaPolished_ret _ _ _ _ n1 _ _ _ n3 n4 W row_G (by omega) (u8_rng z1) row2 (by omega) (fun x hx => u16_rng (wf2 x hx)) (u8_rng z3) (u8_rng z4) : Ret Tryz.prog 10 _ W _) ?_
  rintro e W' ⟨v, rfl, rfl, hE⟩
  exact ⟨_, rfl, post_law kids full (by rw [Tryz.params10]; decide) rfl rfl Tryz.underlying4 hW' rfl rfl rfl hE⟩
set_option maxRecDepth 100000 in
theorem lifted (os : Os) (started : os.Started) (H : Type) (enc : TypeId × Value → H) (F : Stop.Interp) :
    ReturnsInHanded {} Tryz.checked os 10 .any ((Rows.OpenSpec.upto Rows.rotaPolishedSpec).pre6 enc Tryz.prog Tryz.f10 Rows.rotaPolishedUptoRow.domain false) (((Rows.OpenSpec.upto Rows.rotaPolishedSpec).at F).post enc Tryz.prog Tryz.f10 false true false false) := by
  refine returnsInHanded_of_cond (C := Tryz.checked) (s := Rows.OpenSpec.upto Rows.rotaPolishedSpec) (k := Rows.uptoSmall) rfl own started (by kernel_rfl) Tryz.func10
    (OpenSpec.witness (enc := enc) (C := Tryz.checked) (s := Rows.OpenSpec.upto Rows.rotaPolishedSpec) (k := Rows.uptoSmall) rfl false ⟨#[], #[.agg #[.int .i64 0, .slice none 0 0], .int .u8 0, .slice none 0 0, .int .u8 0, .int .u8 0], []⟩ 8 (by kernel_rfl) (by kernel_rfl) (by kernel_rfl)
      (x := ([.agg [.lit (.int .i64 0), .nil], .lit (.int .u8 0), .nil, .lit (.int .u8 0), .lit (.int .u8 0)], [], [])) (by kernel_rfl) rfl (by kernel_rfl)) ?_
  intro W base args ds gs before hval hW _ hk _
  exact contract H enc W base args ds gs before hval hW hk
theorem over : Rows.rotaPolishedUptoRow.holds Tryz.pinned (Rows.OpenSpec.upto Rows.rotaPolishedSpec) :=
  OpenClaim.holds_of_cond 10 Tryz.f10 rfl rfl rfl rfl rfl rfl rfl ⟨rfl, rfl, rfl, rfl, rfl⟩ rfl rfl rfl rfl rfl (by kernel_rfl) Tryz.func10 (by kernel_rfl)
    (of_decide_eq_true (by kernel_rfl)) (by unfold Func.isWrapper; first | (rw [if_pos (by decide +kernel)]; kernel_rfl) | (rw [if_neg (by decide +kernel)]; exact ⟨rfl, rfl⟩))
    (fun os started H enc _ F => lifted os started H enc F)
theorem rotaPolished_holds : Rows.RotaPolishedUptoSaid := over
end Go.Proofs.YtgdanglidienmaaGreat.rotaPolished
