/- RotaMirrors returns true for every input whose bulk is at most 1048576, and each argument reads afterwards as it read before. Conditions: none beyond the statement's own. -/
import Derived.Test.YtgdanglidienmaaGreatRows
import Derived.Test.YtgdanglidienmaaGreatBulk
import Derived.Test.YtgdanglidienmaaGreatKids
import Derived.Test.YtgdanglidienmaaGreatKRotaMirrors
import Derived.Test.YtgdanglidienmaaGreatRO
import Derived.Test.YtgdanglidienmaaGreatGvO
import Derived.WalkKit
import Derived.ProofKit
import Derived.OpenShut
import Derived.JoinedCond
namespace Go.Proofs.YtgdanglidienmaaGreat.rotaMirrors
open Go Go.ChangeShapes Go.WideShapes Go.ChangeAt Go.RowKit Go.Gv Go.Proofs.YtgdanglidienmaaGreat Go.Proofs.YtgdanglidienmaaGreat.bulks
set_option linter.unusedVariables false
set_option linter.unusedSimpArgs false
set_option maxRecDepth 100000 in
theorem contract (H : Type) (enc : TypeId × Value → H) (W : World) (base : Nat) (args : Array Value) (ds gs : List (DataW H)) (before : List MemPlace)
    (hval : ∀ (j : Nat) t v, Tryz.f6.params[j]? = some t → args[j]? = some v → Value.okWide Tryz.prog W .any base t v)
    (hW : DataW.Whole enc Tryz.prog Tryz.f6.params.toList Rows.rotaMirrorsSpec.vars false W args.toList ds gs before) (hk : Rows.uptoSmall H (ds ++ gs) = true) :
    Calls Tryz.prog 6 args W fun e W' => ∃ v, e = .returned v ∧ Rows.rotaMirrorsSpec.post enc Tryz.prog Tryz.f6 false true false false W args v W' := by
  have hW' := hW
  obtain ⟨p, q, hA0, hV, hpq, hfz, hnd⟩ := hW
  have hA : DataW.TrodAll enc Tryz.prog W 0 (fun _ => true) true Tryz.f6.params.toList args.toList ds p := hA0
  have hbulk := bulks.bound hk
  rw [Tryz.params6] at hA hval
  obtain ⟨v0, vs0, d0, ds0, p0, q0, hargs, rfl, rfl, h0, r0⟩ := trodAll_cons hA
  obtain ⟨v1, vs1, d1, ds1, p1, q1, rfl, rfl, rfl, h1, r1⟩ := trodAll_cons r0
  obtain ⟨rfl, rfl, rfl⟩ := trodAll_nil r1
  obtain rfl : args = ⟨[v0, v1]⟩ := by cases args; simp_all
  obtain ⟨rfl, hq⟩ := trodVars_none hV
  obtain ⟨cs0, fu0, rfl, tr0⟩ := agg_open Tryz.underlying51 (hval 0 51 v0 rfl rfl) h0
  obtain ⟨u0_0, u0_1, y0_0, y0_1, m0, rfl, ed0, t0_0, t0_1⟩ := trod_two Tryz.underlying51 (by kernel_rfl) ⟨rfl, rfl⟩ ⟨by kernel_rfl, by kernel_rfl⟩ tr0
  dsimp only at ed0; subst ed0
  have hb0 := Nat.le_trans (bulks.part_le (d := DataW.agg [y0_0.1, y0_1.1]) (by simp)) hbulk
  obtain ⟨fl, rfl, _, z_fl⟩ := open_num Tryz.underlying3 t0_0
  obtain ⟨a_G, c_G, G, rfl, row_G, b_G⟩ := open_row_wide (ce := RG.enc) Tryz.underlying49 (by kernel_rfl) RG.len (by decide) opens_RG t0_1
  have hl_G : G.length ≤ 1048576 := bulks.wide_le b_G (bulks.agg_part (d := y0_1.1) (by simp) hb0)
  have ha_G := bulks.wide_all b_G (bulks.agg_part (d := y0_1.1) (by simp) hb0)
  obtain ⟨a1, l1, c1, rfl⟩ := okWide_slice Tryz.underlying22 (hval 1 22 v1 rfl rfl)
  obtain ⟨fu1, t1⟩ := h1
  have t1 : DataW.trod enc Tryz.prog W 0 (fun _ => true) true fu1 22 [.slice a1 l1 c1] = some (d1, p1) := by simpa [Value.cells] using t1
  obtain ⟨a1, c1, xs1, e1, row1, wf1, b1⟩ := open_row_ints Tryz.underlying22 Tryz.underlying3 (by kernel_rfl) t1
  injection e1 with e11 e12 e13; subst e11; subst e12; subst e13
  have hl1 : xs1.length ≤ 1048576 := bulks.ints_le b1 (Nat.le_trans (bulks.part_le (d := d1) (by simp)) hbulk)
  refine Calls.mono (rotaMirrors_ret _ _ _ _ _ _ _ W row_G (by omega) row1 (by omega) : Ret Tryz.prog 6 _ W _) ?_
  rintro e W' ⟨v, rfl, rfl, hE⟩
  exact ⟨_, rfl, post_law kids full (by rw [Tryz.params6]; decide) rfl rfl Tryz.underlying4 hW' rfl rfl rfl hE⟩
set_option maxRecDepth 100000 in
theorem lifted (os : Os) (started : os.Started) (H : Type) (enc : TypeId × Value → H) (F : Stop.Interp) :
    ReturnsInHanded {} Tryz.checked os 6 .any ((Rows.OpenSpec.upto Rows.rotaMirrorsSpec).pre6 enc Tryz.prog Tryz.f6 Rows.rotaMirrorsUptoRow.domain false) (((Rows.OpenSpec.upto Rows.rotaMirrorsSpec).at F).post enc Tryz.prog Tryz.f6 false true false false) := by
  refine returnsInHanded_of_cond (C := Tryz.checked) (s := Rows.OpenSpec.upto Rows.rotaMirrorsSpec) (k := Rows.uptoSmall) rfl own started (by kernel_rfl) Tryz.func6
    (OpenSpec.witness (enc := enc) (C := Tryz.checked) (s := Rows.OpenSpec.upto Rows.rotaMirrorsSpec) (k := Rows.uptoSmall) rfl false ⟨#[], #[.agg #[.int .i64 0, .slice none 0 0], .slice none 0 0], []⟩ 8 (by kernel_rfl) (by kernel_rfl) (by kernel_rfl)
      (x := ([.agg [.lit (.int .i64 0), .nil], .nil], [], [])) (by kernel_rfl) rfl (by kernel_rfl)) ?_
  intro W base args ds gs before hval hW _ hk _
  exact contract H enc W base args ds gs before hval hW hk
theorem over : Rows.rotaMirrorsUptoRow.holds Tryz.pinned (Rows.OpenSpec.upto Rows.rotaMirrorsSpec) :=
  OpenClaim.holds_of_cond 6 Tryz.f6 rfl rfl rfl rfl rfl rfl rfl ⟨rfl, rfl, rfl, rfl, rfl⟩ rfl rfl rfl rfl rfl (by kernel_rfl) Tryz.func6 (by kernel_rfl)
    (of_decide_eq_true (by kernel_rfl)) (by unfold Func.isWrapper; first | (rw [if_pos (by decide +kernel)]; kernel_rfl) | (rw [if_neg (by decide +kernel)]; exact ⟨rfl, rfl⟩))
    (fun os started H enc _ F => lifted os started H enc F)
theorem rotaMirrors_holds : Rows.RotaMirrorsUptoSaid := over
end Go.Proofs.YtgdanglidienmaaGreat.rotaMirrors
