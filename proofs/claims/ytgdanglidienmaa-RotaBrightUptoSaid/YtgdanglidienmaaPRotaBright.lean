/- RotaBright returns true for every input whose bulk is at most 1048576, and each argument reads afterwards as it read before. Conditions: none beyond the statement's own. -/
import Derived.Test.YtgdanglidienmaaRows
import Derived.Test.YtgdanglidienmaaBulk
import Derived.Test.YtgdanglidienmaaKids
import Derived.Test.YtgdanglidienmaaKRotaBright
import Derived.Test.YtgdanglidienmaaRO
import Derived.Test.YtgdanglidienmaaGvO
import Derived.WalkKit
import Derived.ProofKit
import Derived.OpenShut
import Derived.JoinedCond
namespace Go.Proofs.Ytgdanglidienmaa.rotaBright
open Go Go.ChangeShapes Go.WideShapes Go.ChangeAt Go.RowKit Go.Gv Go.Proofs.Ytgdanglidienmaa Go.Proofs.Ytgdanglidienmaa.bulks
set_option linter.unusedVariables false
set_option linter.unusedSimpArgs false
set_option maxRecDepth 100000 in
theorem contract (H : Type) (enc : TypeId × Value → H) (W : World) (base : Nat) (args : Array Value) (ds gs : List (DataW H)) (before : List MemPlace)
    (hval : ∀ (j : Nat) t v, Try.f4.params[j]? = some t → args[j]? = some v → Value.okWide Try.prog W .any base t v)
    (hW : DataW.Whole enc Try.prog Try.f4.params.toList Rows.rotaBrightSpec.vars false W args.toList ds gs before) (hk : Rows.uptoSmall H (ds ++ gs) = true) :
    Calls Try.prog 4 args W fun e W' => ∃ v, e = .returned v ∧ Rows.rotaBrightSpec.post enc Try.prog Try.f4 false true false false W args v W' := by
  have hW' := hW
  obtain ⟨p, q, hA0, hV, hpq, hfz, hnd⟩ := hW
  have hA : DataW.TrodAll enc Try.prog W 0 (fun _ => true) true Try.f4.params.toList args.toList ds p := hA0
  have hbulk := bulks.bound hk
  rw [Try.params4] at hA hval
  obtain ⟨v0, vs0, d0, ds0, p0, q0, hargs, rfl, rfl, h0, r0⟩ := trodAll_cons hA
  obtain ⟨v1, vs1, d1, ds1, p1, q1, rfl, rfl, rfl, h1, r1⟩ := trodAll_cons r0
  obtain ⟨v2, vs2, d2, ds2, p2, q2, rfl, rfl, rfl, h2, r2⟩ := trodAll_cons r1
  obtain ⟨rfl, rfl, rfl⟩ := trodAll_nil r2
  obtain rfl : args = ⟨[v0, v1, v2]⟩ := by cases args; simp_all
  obtain ⟨rfl, hq⟩ := trodVars_none hV
  obtain ⟨cs0, fu0, rfl, tr0⟩ := agg_open Try.underlying38 (hval 0 38 v0 rfl rfl) h0
  obtain ⟨u0_0, u0_1, y0_0, y0_1, m0, rfl, ed0, t0_0, t0_1⟩ := trod_two Try.underlying38 (by kernel_rfl) ⟨rfl, rfl⟩ ⟨by kernel_rfl, by kernel_rfl⟩ tr0
  dsimp only at ed0; subst ed0
  have hb0 := Nat.le_trans (bulks.part_le (d := DataW.agg [y0_0.1, y0_1.1]) (by simp)) hbulk
  obtain ⟨fl, rfl, _, z_fl⟩ := open_num Try.underlying3 t0_0
  obtain ⟨a_G, c_G, G, rfl, row_G, b_G⟩ := open_row_wide (ce := RG.enc) Try.underlying36 (by kernel_rfl) RG.len (by decide) opens_RG t0_1
  have hl_G : G.length ≤ 1048576 := bulks.wide_le b_G (bulks.agg_part (d := y0_1.1) (by simp) hb0)
  have ha_G := bulks.wide_all b_G (bulks.agg_part (d := y0_1.1) (by simp) hb0)
  obtain ⟨n1, e1, x1, y1, z1⟩ := open_int Try.underlying5 (hval 1 5 v1 rfl rfl) h1
  subst e1; subst x1
  obtain ⟨a2, l2, c2, rfl⟩ := okWide_slice Try.underlying39 (hval 2 39 v2 rfl rfl)
  obtain ⟨fu2, t2⟩ := h2
  have t2 : DataW.trod enc Try.prog W 0 (fun _ => true) true fu2 39 [.slice a2 l2 c2] = some (d2, p2) := by simpa [Value.cells] using t2
  obtain ⟨a2, c2, xs2, e2, row2, wf2, b2⟩ := open_row_ints Try.underlying39 Try.underlying120 (by kernel_rfl) t2
  injection e2 with e21 e22 e23; subst e21; subst e22; subst e23
  have hl2 : xs2.length ≤ 1048576 := bulks.ints_le b2 (Nat.le_trans (bulks.part_le (d := d2) (by simp)) hbulk)
  refine Calls.mono (rotaBright_ret _ _ _ _ n1 _ _ _ W row_G (by omega) (u8_rng z1) row2 (by omega) (fun x hx => u16_rng (wf2 x hx)) : Ret Try.prog 4 _ W _) ?_
  rintro e W' ⟨v, rfl, rfl, hE⟩
  exact ⟨_, rfl, post_law kids full (by rw [Try.params4]; decide) rfl rfl Try.underlying4 hW' rfl rfl rfl hE⟩
set_option maxRecDepth 100000 in
theorem lifted (os : Os) (started : os.Started) (H : Type) (enc : TypeId × Value → H) (F : Stop.Interp) :
    ReturnsInHanded {} Try.checked os 4 .any ((Rows.OpenSpec.upto Rows.rotaBrightSpec).pre6 enc Try.prog Try.f4 Rows.rotaBrightUptoRow.domain false) (((Rows.OpenSpec.upto Rows.rotaBrightSpec).at F).post enc Try.prog Try.f4 false true false false) := by
  refine returnsInHanded_of_cond (C := Try.checked) (s := Rows.OpenSpec.upto Rows.rotaBrightSpec) (k := Rows.uptoSmall) rfl own started (by kernel_rfl) Try.func4
    (OpenSpec.witness (enc := enc) (C := Try.checked) (s := Rows.OpenSpec.upto Rows.rotaBrightSpec) (k := Rows.uptoSmall) rfl false ⟨#[], #[.agg #[.int .i64 0, .slice none 0 0], .int .u8 0, .slice none 0 0], []⟩ 8 (by kernel_rfl) (by kernel_rfl) (by kernel_rfl)
      (x := ([.agg [.lit (.int .i64 0), .nil], .lit (.int .u8 0), .nil], [], [])) (by kernel_rfl) rfl (by kernel_rfl)) ?_
  intro W base args ds gs before hval hW _ hk _
  exact contract H enc W base args ds gs before hval hW hk
theorem over : Rows.rotaBrightUptoRow.holds Try.pinned (Rows.OpenSpec.upto Rows.rotaBrightSpec) :=
  OpenClaim.holds_of_cond 4 Try.f4 rfl rfl rfl rfl rfl rfl rfl ⟨rfl, rfl, rfl, rfl, rfl⟩ rfl rfl rfl rfl rfl (by kernel_rfl) Try.func4 (by kernel_rfl)
    (of_decide_eq_true (by kernel_rfl)) (by unfold Func.isWrapper; first | (rw [if_pos (by decide +kernel)]; kernel_rfl) | (rw [if_neg (by decide +kernel)]; exact ⟨rfl, rfl⟩))
    (fun os started H enc _ F => lifted os started H enc F)
theorem rotaBright_holds : Rows.RotaBrightUptoSaid := over
end Go.Proofs.Ytgdanglidienmaa.rotaBright
