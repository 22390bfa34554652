/- Contracts. -/
import Derived.Test.YtgdanglidienmaaGreatRN
set_option linter.unusedVariables false
set_option linter.unusedSimpArgs false
namespace Go.Proofs.YtgdanglidienmaaGreat
open Go Go.RowKit Go.Gv Go.Fl


theorem rotaPolished_ret (fl : Int) (ga : Option Addr) (gc : Nat) (G : List RG) (bt : Int) (wa : Option Addr) (wc : Nat) (ws : List Int) (wt le : Int) (w : World) (hG : Row w ga G.length gc 2 (G.flatMap RG.enc)) (hGn : G.length ≤ 2097152) (hbt : 0 ≤ bt ∧ bt ≤ 255) (hwd : Row w wa ws.length wc 1 (ws.map (Value.int .u16))) (hwn : ws.length ≤ 2097152) (hwr : ∀ x ∈ ws, 0 ≤ x ∧ x ≤ 65535) (hwt : 0 ≤ wt ∧ wt ≤ 255) (hle : 0 ≤ le ∧ le ≤ 255) : Ret Tryz.prog 10 [.agg ⟨[vint fl, .slice ga G.length gc]⟩, .int .u8 bt, .slice wa ws.length wc, .int .u8 wt, .int .u8 le] w (fun v w' => v = .bool true ∧ Ext w w') := by
 have hB := Below.refl w.heap.size w
 have hsz : w.heap.size ≤ w.heap.size := Nat.le_refl _
 refine ret_of_runs (args := [_, _, _, _, _]) Tryz.func10 rfl (Nat.le_of_ble_eq_true rfl) (by kernel_rfl) ?_
 refine r_seq (r_region' ?_)
 refine l_o (o_boxt rfl rfl rfl ?_)
 intro b1 w1 hzl1 hzr1 _ hb1 hty_b1 hE1
 have hbs_b1 : w.heap.size ≤ b1 := Nat.le_trans hsz hzl1
 replace hB := below_ext hB hE1 hsz
 replace hsz := Nat.le_trans hsz hE1.size
 refine l_q (q_assign (v := .bool _) rfl rfl) ?_
 refine l_nil (r_seq (r_seq (r_region' ?_)))
 refine l_q (q_load_agg (n := 2) Tryz.isAgg51 Tryz.sizeOf51 rfl ((hb1.cells' (cs' := [_, _]) 0 2 rfl)) rfl rfl) ?_
 refine l_o (o_call Tryz.call35 rfl (mfault10_ret fl ga gc G _ (hG.below hB) hGn) rfl ?_)
 rintro _ w2 ⟨rfl, hE2⟩
 replace hB := below_ext hB hE2 hsz
 replace hb1 := hb1.ext hE2
 replace hty_b1 := hty_b1.ext hE2
 replace hsz := Nat.le_trans hsz hE2.size
 refine l_q (q_neq rfl rfl rfl) ?_
 refine l_nil ?_
 refine r_cond rfl (fun hc3 => ?_) (fun hc3 => ?_)
 ·
  replace hc3 := df (nt hc3)
  refine r_seq (r_region' ?_)
  refine l_o (o_call Tryz.call17 rfl (awake_ret _) rfl ?_)
  rintro _ w4 ⟨rfl, hE4⟩
  replace hB := below_ext hB hE4 hsz
  replace hb1 := hb1.ext hE4
  replace hty_b1 := hty_b1.ext hE4
  replace hsz := Nat.le_trans hsz hE4.size
  refine l_q (q_assign (v := .bool _) rfl rfl) ?_
  refine l_nil ?_
  refine r_forget [(10, .bool _)] ⟨rfl, trivial⟩ (fun e5 => ?_)
  refine r_ret_ (vs := [.bool _]) rfl Tryz.func10 rfl (.nil _) ⟨rfl, trivial⟩ ?_
  exact ⟨rfl, Ext.of_below hB⟩
 ·
  replace hc3 := dt (nf hc3)
  have hm : mfault fl G = 0 := by simpa using hc3
  obtain ⟨⟨hf1, hf2⟩, ⟨hg0, hg8⟩, hrg⟩ := mf_ok hm
  refine r_skip (r_seq ?_)
  obtain ⟨N, hN, hN16, hNn⟩ := two_pow8 hg8
  have hNp : 0 < N := by rw [hNn]; exact Nat.two_pow_pos _
  have hq1 := Int.emod_nonneg bt (show (1 * 2 ^ ((G.length : Int).toNat) : Int) ≠ 0 by omega)
  have hq2 := Int.emod_lt_of_pos bt (show (0 : Int) < 1 * 2 ^ ((G.length : Int).toNat) by omega)
  obtain ⟨m, hm1⟩ : ∃ m : Nat, bt % (1 * 2 ^ ((G.length : Int).toNat)) = (m : Int) := ⟨_, (Int.toNat_of_nonneg hq1).symm⟩
  have hmN : m < 2 ^ G.length := by rw [← hNn]; omega
  have hris := bits_ris hmN (by omega)
  have hm16 : m < 256 := by omega
  have hq3 := Int.emod_nonneg wt (show (G.length : Int) ≠ 0 by omega)
  have hq4 := Int.emod_lt_of_pos wt (show (0 : Int) < G.length by omega)
  obtain ⟨j, hj⟩ : ∃ j : Nat, (wt % (G.length : Int)).toNat = j := ⟨_, rfl⟩
  have hjG : j < G.length := by omega
  obtain ⟨q, hq⟩ : ∃ q : Nat, 2 ^ j = q := ⟨_, rfl⟩
  have hj2 : (1 : Int) * 2 ^ (wt % (G.length : Int)).toNat = (q : Int) := by rw [hj, ← hq]; simp
  have hjN : q < 2 ^ G.length := by rw [← hq]; exact Nat.pow_lt_pow_right (by decide) hjG
  have hj8 : q < 256 := by omega
  have hmo : m ||| q < 2 ^ G.length := Nat.or_lt_two_pow hmN hjN
  have hris2 := bits_ris hmo (by omega)
  have hsub := bits_or hmN hjN (by omega)
  refine r_region' ?_
  refine l_q (q_move (v := .int _ _) rfl rfl) ?_
  refine l_q (q_toInt Tryz.underlying5 Tryz.underlying3 rfl (by omega) rfl) ?_
  refine l_q (q_fieldAddr (o' := 1) rfl fld51_1 rfl) ?_
  refine l_q (q_load Tryz.isAgg49 rfl ((hb1.has (o := 1) rfl)) rfl) ?_
  refine l_q (q_len rfl Tryz.underlying49 rfl rfl) ?_
  refine l_q (q_toUint Tryz.underlying3 Tryz.underlying75 rfl (by omega) rfl) ?_
  refine l_q (q_shl rfl rfl (by omega) (by omega) rfl) ?_
  refine l_q (q_rem rfl rfl (by omega) rfl) ?_
  refine l_o (o_call Tryz.call45 rfl ((by have h := bits_ret m w2 (by omega); rw [← hm1] at h; exact h)) rfl ?_)
  rintro _ w6 ⟨a6_0, c6_0, rfl, ho6_0, hE6⟩
  replace ho6_0 := own_mono ho6_0 (show w.heap.size ≤ _ by omega)
  replace hB := below_ext hB hE6 hsz
  replace hb1 := hb1.ext hE6
  replace hty_b1 := hty_b1.ext hE6
  replace hsz := Nat.le_trans hsz hE6.size
  refine l_q (q_assign (v := .slice _ _ _) rfl rfl) ?_
  refine l_nil ?_
  refine r_forget [(1, .int _ _), (2, .slice _ _ _), (3, .int _ _), (4, .int _ _), (5, .pointer _), (11, .slice _ _ _)] ⟨rfl, rfl, rfl, rfl, rfl, rfl, trivial⟩ (fun e7 => ?_)
  refine r_seq ?_
  refine r_draw ext_refl' ext_trans' [0, 1, 2, 3, 4, 5, 6, 7, 8, 9, 10, 11, 12, 13, 14, 15, 16, 17, 18] [17] 60 (by kernel_rfl) (by kernel_rfl) ?_
  intro w8 _ hE8
  replace hB := below_ext hB hE8 hsz
  replace hb1 := hb1.ext hE8
  replace hty_b1 := hty_b1.ext hE8
  replace ho6_0 := own_ext ho6_0 hE8
  replace hsz := Nat.le_trans hsz hE8.size
  refine m_q rfl rfl (fun w' hC' => q_move (v := .int _ _) rfl rfl) ?_
  refine m_q rfl rfl (fun w' hC' => q_toInt Tryz.underlying5 Tryz.underlying3 rfl (by omega) rfl) ?_
  refine m_q rfl rfl (fun w' hC' => q_fieldAddr (o' := 1) rfl fld51_1 rfl) ?_
  refine m_q rfl rfl (fun w' hC' => q_load Tryz.isAgg49 rfl (((hb1.has (o := 1) rfl).ext hC')) rfl) ?_
  refine m_q rfl rfl (fun w' hC' => q_len rfl Tryz.underlying49 rfl rfl) ?_
  refine m_q rfl rfl (fun w' hC' => q_toUint Tryz.underlying3 Tryz.underlying75 rfl (by omega) rfl) ?_
  refine m_q rfl rfl (fun w' hC' => q_shl rfl rfl (by omega) (by omega) rfl) ?_
  refine m_q rfl rfl (fun w' hC' => q_rem rfl rfl (by omega) rfl) ?_
  refine m_q rfl rfl (fun w' hC' => q_move (v := .int _ _) rfl rfl) ?_
  refine m_q rfl rfl (fun w' hC' => q_toInt Tryz.underlying5 Tryz.underlying3 rfl (by omega) rfl) ?_
  refine m_q rfl rfl (fun w' hC' => q_fieldAddr (o' := 1) rfl fld51_1 rfl) ?_
  refine m_q rfl rfl (fun w' hC' => q_load Tryz.isAgg49 rfl (((hb1.has (o := 1) rfl).ext hC')) rfl) ?_
  refine m_q rfl rfl (fun w' hC' => q_len rfl Tryz.underlying49 rfl rfl) ?_
  refine m_q rfl rfl (fun w' hC' => q_rem rfl rfl (by omega) rfl) ?_
  refine m_q rfl rfl (fun w' hC' => q_toUint Tryz.underlying3 Tryz.underlying75 rfl (by omega) rfl) ?_
  refine m_q rfl rfl (fun w' hC' => q_shl rfl rfl (by omega) (by rw [hj2]; omega) rfl) ?_
  refine m_q rfl rfl (fun w' hC' => q_or (a := m) (b := q) rfl rfl (hm1) (hj2) (by omega) (by omega) rfl) ?_
  refine m_o rfl rfl (o_call Tryz.call45 rfl (bits_ret (m ||| q) _ (Nat.lt_trans hmo (by omega))) rfl ?_)
  rintro _ w9 ⟨a9_0, c9_0, rfl, ho9_0, hE9⟩
  replace ho9_0 := own_mono ho9_0 (show w.heap.size ≤ _ by omega)
  refine ⟨hE9, ?_⟩
  replace hB := below_ext hB hE9 hsz
  replace hb1 := hb1.ext hE9
  replace hty_b1 := hty_b1.ext hE9
  replace ho6_0 := own_ext ho6_0 hE9
  replace hsz := Nat.le_trans hsz hE9.size
  refine m_q rfl rfl (fun w' hC' => q_assign (v := .slice _ _ _) rfl rfl) ?_
  refine m_nil ?_
  refine r_forget [(2, .slice _ _ _), (4, .int _ _), (5, .pointer _), (11, .slice _ _ _), (12, .slice _ _ _)] ⟨rfl, rfl, rfl, rfl, rfl, trivial⟩ (fun e10 => ?_)
  refine r_seq (r_region' ?_)
  refine l_q (q_load_agg (n := 2) Tryz.isAgg51 Tryz.sizeOf51 rfl ((hb1.cells' (cs' := [_, _]) 0 2 rfl)) rfl rfl) ?_
  refine l_o (o_call Tryz.call32 rfl (mirror10_ret fl ga gc G _ (hG.below hB) (by omega)) rfl ?_)
  rintro _ w11 ⟨ga11, gc11, rfl, hmr11, hE11⟩
  replace hB := below_ext hB hE11 hsz
  replace hb1 := hb1.ext hE11
  replace hty_b1 := hty_b1.ext hE11
  replace ho6_0 := own_ext ho6_0 hE11
  replace ho9_0 := own_ext ho9_0 hE11
  replace hsz := Nat.le_trans hsz hE11.size
  refine l_q (q_move (v := .slice _ _ _) rfl rfl) ?_
  refine l_o (o_call Tryz.call33 rfl (list10_ret _ _ (bitsL m) _ (Row.of_owns ho6_0) (Nat.le_trans (bits_len _) (by decide))) rfl ?_)
  rintro _ w12 ⟨a12_0, c12_0, rfl, ho12_0, hE12⟩
  replace ho12_0 := own_mono ho12_0 (show w.heap.size ≤ _ by omega)
  replace hB := below_ext hB hE12 hsz
  replace hb1 := hb1.ext hE12
  replace hty_b1 := hty_b1.ext hE12
  replace ho6_0 := own_ext ho6_0 hE12
  replace ho9_0 := own_ext ho9_0 hE12
  replace hmr11 := hmr11.ext hE12
  replace hsz := Nat.le_trans hsz hE12.size
  refine l_o (o_call Tryz.call31 rfl ((by have h := bright_ret fl ga11 gc11 G a12_0 c12_0 (bitsL m) _ hmr11 (by omega) (Row.of_owns ho12_0) (Nat.le_trans (bits_len _) (by decide)); exact h)) rfl ?_)
  rintro _ w13 ⟨ba13, bc13, rfl, hbr13, hE13⟩
  replace hB := below_ext hB hE13 hsz
  replace hb1 := hb1.ext hE13
  replace hty_b1 := hty_b1.ext hE13
  replace ho6_0 := own_ext ho6_0 hE13
  replace ho9_0 := own_ext ho9_0 hE13
  replace hmr11 := hmr11.ext hE13
  replace ho12_0 := own_ext ho12_0 hE13
  replace hsz := Nat.le_trans hsz hE13.size
  refine l_q (q_move (v := .tuple _) rfl rfl) ?_
  refine l_q (q_extract (vs := [_, _]) (v := .slice _ _ _) rfl rfl rfl) ?_
  refine l_q (q_extract (vs := [_, _]) (v := .int _ _) rfl rfl rfl) ?_
  refine l_q (q_assign (v := .slice _ _ _) rfl rfl) ?_
  refine l_q (q_assign (v := .int _ _) rfl rfl) ?_
  refine l_nil (r_seq (r_region' ?_))
  refine l_q (q_load_agg (n := 2) Tryz.isAgg51 Tryz.sizeOf51 rfl ((hb1.cells' (cs' := [_, _]) 0 2 rfl)) rfl rfl) ?_
  refine l_o (o_call Tryz.call32 rfl (mirror10_ret fl ga gc G _ (hG.below hB) (by omega)) rfl ?_)
  rintro _ w14 ⟨ga14, gc14, rfl, hmr14, hE14⟩
  replace hB := below_ext hB hE14 hsz
  replace hb1 := hb1.ext hE14
  replace hty_b1 := hty_b1.ext hE14
  replace ho6_0 := own_ext ho6_0 hE14
  replace ho9_0 := own_ext ho9_0 hE14
  replace hmr11 := hmr11.ext hE14
  replace ho12_0 := own_ext ho12_0 hE14
  replace hbr13 := hbr13.ext hE14
  replace hsz := Nat.le_trans hsz hE14.size
  refine l_q (q_move (v := .slice _ _ _) rfl rfl) ?_
  refine l_o (o_call Tryz.call33 rfl (list10_ret _ _ (bitsL (m ||| q)) _ (Row.of_owns ho9_0) (Nat.le_trans (bits_len _) (by decide))) rfl ?_)
  rintro _ w15 ⟨a15_0, c15_0, rfl, ho15_0, hE15⟩
  replace ho15_0 := own_mono ho15_0 (show w.heap.size ≤ _ by omega)
  replace hB := below_ext hB hE15 hsz
  replace hb1 := hb1.ext hE15
  replace hty_b1 := hty_b1.ext hE15
  replace ho6_0 := own_ext ho6_0 hE15
  replace ho9_0 := own_ext ho9_0 hE15
  replace hmr11 := hmr11.ext hE15
  replace ho12_0 := own_ext ho12_0 hE15
  replace hbr13 := hbr13.ext hE15
  replace hmr14 := hmr14.ext hE15
  replace hsz := Nat.le_trans hsz hE15.size
  refine l_o (o_call Tryz.call31 rfl ((by have h := bright_ret fl ga14 gc14 G a15_0 c15_0 (bitsL (m ||| q)) _ hmr14 (by omega) (Row.of_owns ho15_0) (Nat.le_trans (bits_len _) (by decide)); exact h)) rfl ?_)
  rintro _ w16 ⟨ba16, bc16, rfl, hbr16, hE16⟩
  replace hB := below_ext hB hE16 hsz
  replace hb1 := hb1.ext hE16
  replace hty_b1 := hty_b1.ext hE16
  replace ho6_0 := own_ext ho6_0 hE16
  replace ho9_0 := own_ext ho9_0 hE16
  replace hmr11 := hmr11.ext hE16
  replace ho12_0 := own_ext ho12_0 hE16
  replace hbr13 := hbr13.ext hE16
  replace hmr14 := hmr14.ext hE16
  replace ho15_0 := own_ext ho15_0 hE16
  replace hsz := Nat.le_trans hsz hE16.size
  refine l_q (q_move (v := .tuple _) rfl rfl) ?_
  refine l_q (q_extract (vs := [_, _]) (v := .slice _ _ _) rfl rfl rfl) ?_
  refine l_q (q_extract (vs := [_, _]) (v := .int _ _) rfl rfl rfl) ?_
  refine l_q (q_assign (v := .slice _ _ _) rfl rfl) ?_
  refine l_q (q_assign (v := .int _ _) rfl rfl) ?_
  refine l_nil ?_
  refine r_forget [(2, .slice _ _ _), (4, .int _ _), (5, .pointer _), (11, .slice _ _ _), (13, .slice _ _ _), (14, .int _ _), (15, .slice _ _ _), (16, .int _ _)] ⟨rfl, rfl, rfl, rfl, rfl, rfl, rfl, rfl, trivial⟩ (fun e17 => ?_)
  refine r_seq (r_seq ?_)
  have hbl1 := bright_len hm hris
  have hbl2 := bright_len hm hris2
  refine r_region' ?_
  refine l_q (q_move (v := .int _ _) rfl rfl) ?_
  refine l_q (q_neq rfl rfl rfl) ?_
  refine l_q (q_move (v := .bool _) rfl rfl) ?_
  have hk18 : (!decide (((brightM fl G (bitsL m)).1) = 0)) = false := by rw [br_0 hm hris]; rfl
  refine l_part 75 rfl (fun hx => absurd (hk18.symm.trans hx) (by decide)) (fun _ => ?_)
  refine l_q (q_move (v := .int _ _) rfl rfl) ?_
  refine l_q (q_neq rfl rfl rfl) ?_
  refine l_q (q_pick_f (v := .bool _) rfl rfl rfl) ?_
  refine l_q (q_move (v := .bool _) rfl rfl) ?_
  have hk19 : (!decide (((brightM fl G (bitsL (m ||| q))).1) = 0)) = false := by rw [br_0 hm hris2]; rfl
  refine l_part 79 rfl (fun hx => absurd (hk19.symm.trans hx) (by decide)) (fun _ => ?_)
  refine l_q (q_move (v := .slice _ _ _) rfl rfl) ?_
  refine l_q (q_len rfl Tryz.underlying52 rfl rfl) ?_
  refine l_q (q_fieldAddr (o' := 1) rfl fld51_1 rfl) ?_
  refine l_q (q_load Tryz.isAgg49 rfl ((hb1.has (o := 1) rfl)) rfl) ?_
  refine l_q (q_len rfl Tryz.underlying49 rfl rfl) ?_
  refine l_q (q_neq rfl rfl rfl) ?_
  refine l_q (q_pick_f (v := .bool _) rfl rfl rfl) ?_
  refine l_q (q_move (v := .bool _) rfl rfl) ?_
  have hk20 : (!decide ((((brightM fl G (bitsL m)).2).length : Int) = (G.length : Int))) = false := by rw [hbl1]; simp
  refine l_part 87 rfl (fun hx => absurd (hk20.symm.trans hx) (by decide)) (fun _ => ?_)
  refine l_q (q_move (v := .slice _ _ _) rfl rfl) ?_
  refine l_q (q_len rfl Tryz.underlying52 rfl rfl) ?_
  refine l_q (q_move (v := .slice _ _ _) rfl rfl) ?_
  refine l_q (q_len rfl Tryz.underlying52 rfl rfl) ?_
  refine l_q (q_neq rfl rfl rfl) ?_
  refine l_q (q_pick_f (v := .bool _) rfl rfl rfl) ?_
  refine l_nil ?_
  refine r_forget [(2, .slice _ _ _), (4, .int _ _), (5, .pointer _), (11, .slice _ _ _), (13, .slice _ _ _), (15, .slice _ _ _), (93, .bool _)] ⟨rfl, rfl, rfl, rfl, rfl, rfl, rfl, trivial⟩ (fun e21 => ?_)
  have hk22 : (!decide ((((brightM fl G (bitsL (m ||| q))).2).length : Int) = (((brightM fl G (bitsL m)).2).length : Int))) = false := by rw [hbl1, hbl2]; simp
  refine r_cond_f ((congrArg Value.bool hk22 : Value.bool _ = _)) ?_
  refine r_skip (r_seq (r_region' ?_))
  refine l_q (q_assign (v := .bool _) rfl rfl) ?_
  refine l_nil (r_seq (r_seq (r_region' ?_)))
  refine l_q (q_assign (v := .int _ _) rfl rfl) ?_
  refine l_nil (r_block ?_)
  refine r_rounds (α := Nat × Bool) (fun ⟨i, dm⟩ e wl => Knows e [(2, .slice wa ws.length wc), (4, .int .u8 le), (5, ptr b1 0), (11, .slice a6_0 ((bitsL m).length) c6_0), (13, .slice ba13 (((brightM fl G (bitsL m)).2).length) bc13), (15, .slice ba16 (((brightM fl G (bitsL (m ||| q))).2).length) bc16), (17, .bool dm), (18, vint (i : Int))] ∧ (i ≤ G.length) ∧ (dm = !(List.range i).all (fun j => decide (fl ≤ ((brightM fl G (bitsL m)).2.getD j rg0).lo))) ∧ (Blk wl b1 [vint fl, .slice ga G.length gc]) ∧ (TyAt wl b1 51) ∧ (wl.ownsRow w.heap.size 3 1 (.slice a6_0 ((bitsL m).length) c6_0) ((bitsL m).length) ((bitsL m).map vint)) ∧ (wl.ownsRow w.heap.size 3 1 (.slice a9_0 ((bitsL (m ||| q)).length) c9_0) ((bitsL (m ||| q)).length) ((bitsL (m ||| q)).map vint)) ∧ (Row wl ga11 G.length gc11 2 (G.flatMap RG.enc)) ∧ (wl.ownsRow w.heap.size 3 1 (.slice a12_0 (((bitsL m)).length) c12_0) (((bitsL m)).length) (((bitsL m)).map vint)) ∧ (Row wl ba13 (((brightM fl G (bitsL m)).2).length) bc13 2 (((brightM fl G (bitsL m)).2).flatMap RG.enc)) ∧ (Row wl ga14 G.length gc14 2 (G.flatMap RG.enc)) ∧ (wl.ownsRow w.heap.size 3 1 (.slice a15_0 (((bitsL (m ||| q))).length) c15_0) (((bitsL (m ||| q))).length) (((bitsL (m ||| q))).map vint)) ∧ (Row wl ba16 (((brightM fl G (bitsL (m ||| q))).2).length) bc16 2 (((brightM fl G (bitsL (m ||| q))).2).flatMap RG.enc)) ∧ (w.heap.size ≤ wl.heap.size) ∧ (Below w.heap.size w wl)) (fun ⟨i, dm⟩ => G.length - i) (0, false) ?_ ?_
  ·
   exact ⟨⟨rfl, rfl, rfl, rfl, rfl, rfl, rfl, rfl, trivial⟩, (Nat.zero_le _), rfl, hb1, hty_b1, ho6_0, ho9_0, hmr11, ho12_0, hbr13, hmr14, ho15_0, hbr16, hsz, hB⟩
  ·
   rintro ⟨i, dm⟩ el23 wl23 ⟨hkn, hi, hdm, hb1, hty_b1, ho6_0, ho9_0, hmr11, ho12_0, hbr13, hmr14, ho15_0, hbr16, hsz, hB⟩ ih23
   obtain ⟨e23, rfl⟩ := knows_env hkn
   refine r_seq (r_seq (r_region' ?_))
   refine l_q (q_move (v := .int _ _) rfl rfl) ?_
   refine l_q (q_move (v := .slice _ _ _) rfl rfl) ?_
   refine l_q (q_len rfl Tryz.underlying52 rfl rfl) ?_
   refine l_q (q_lss rfl rfl rfl) ?_
   refine l_nil ?_
   refine r_cond rfl (fun hc24 => ?_) (fun hc24 => ?_)
   ·
    replace hc24 := dt hc24
    have hiG : i < G.length := by omega
    obtain ⟨hbr1, hbr2⟩ := br_mono hm hris hris2 hsub hiG
    refine r_skip (r_seq (r_block (r_seq (r_seq ?_))))
    refine r_draw ext_refl' ext_trans' [0, 1, 2, 3, 4, 5, 6, 7, 8, 9, 10, 11, 12, 13, 14, 15, 16, 17, 18, 19, 20, 21, 22, 23] [] 60 (by kernel_rfl) (by kernel_rfl) ?_
    intro w25 _ hE25
    replace hB := below_ext hB hE25 hsz
    replace hb1 := hb1.ext hE25
    replace hty_b1 := hty_b1.ext hE25
    replace ho6_0 := own_ext ho6_0 hE25
    replace ho9_0 := own_ext ho9_0 hE25
    replace hmr11 := hmr11.ext hE25
    replace ho12_0 := own_ext ho12_0 hE25
    replace hbr13 := hbr13.ext hE25
    replace hmr14 := hmr14.ext hE25
    replace ho15_0 := own_ext ho15_0 hE25
    replace hbr16 := hbr16.ext hE25
    replace hsz := Nat.le_trans hsz hE25.size
    refine m_q rfl rfl (fun w' hC' => q_move (v := .slice _ _ _) rfl rfl) ?_
    refine m_q rfl rfl (fun w' hC' => q_move (v := .int _ _) rfl rfl) ?_
    obtain ⟨b26, o26, ha26, hh26⟩ := hbr16.at (by decide) i (by omega)
    refine m_q rfl rfl (fun w' hC' => q_indexAddr Tryz.underlying52 Tryz.sizeOf66 rfl ha26 rfl (by omega) rfl) ?_
    refine m_q rfl rfl (fun w' hC' => q_fieldAddr (o' := 0) rfl fld66_0 rfl) ?_
    refine m_q rfl rfl (fun w' hC' => q_load Tryz.isAgg3 rfl ((((cells_cast (wide_at RG.len rg0 _ _ (by omega)) hh26) 0 _ rfl).ext hC')) rfl) ?_
    refine m_q rfl rfl (fun w' hC' => q_move (v := .slice _ _ _) rfl rfl) ?_
    refine m_q rfl rfl (fun w' hC' => q_move (v := .int _ _) rfl rfl) ?_
    obtain ⟨b27, o27, ha27, hh27⟩ := hbr13.at (by decide) i (by omega)
    refine m_q rfl rfl (fun w' hC' => q_indexAddr Tryz.underlying52 Tryz.sizeOf66 rfl ha27 rfl (by omega) rfl) ?_
    refine m_q rfl rfl (fun w' hC' => q_fieldAddr (o' := 0) rfl fld66_0 rfl) ?_
    refine m_q rfl rfl (fun w' hC' => q_load Tryz.isAgg3 rfl ((((cells_cast (wide_at RG.len rg0 _ _ (by omega)) hh27) 0 _ rfl).ext hC')) rfl) ?_
    refine m_q rfl rfl (fun w' hC' => q_lss rfl rfl rfl) ?_
    refine m_q rfl rfl (fun w' hC' => q_move (v := .bool _) rfl rfl) ?_
    have hk28 : (decide (((((brightM fl G (bitsL (m ||| q))).2).getD i rg0).lo) < ((((brightM fl G (bitsL m)).2).getD i rg0).lo))) = false := decide_eq_false (by omega)
    refine m_part 111 rfl (fun hx => absurd (hk28.symm.trans hx) (by decide)) (fun _ => ?_)
    refine m_q rfl rfl (fun w' hC' => q_move (v := .slice _ _ _) rfl rfl) ?_
    refine m_q rfl rfl (fun w' hC' => q_move (v := .int _ _) rfl rfl) ?_
    obtain ⟨b29, o29, ha29, hh29⟩ := hbr16.at (by decide) i (by omega)
    refine m_q rfl rfl (fun w' hC' => q_indexAddr Tryz.underlying52 Tryz.sizeOf66 rfl ha29 rfl (by omega) rfl) ?_
    refine m_q rfl rfl (fun w' hC' => q_fieldAddr (o' := 1) rfl fld66_1 rfl) ?_
    refine m_q rfl rfl (fun w' hC' => q_load Tryz.isAgg3 rfl ((((cells_cast (wide_at RG.len rg0 _ _ (by omega)) hh29) 1 _ rfl).ext hC')) rfl) ?_
    refine m_q rfl rfl (fun w' hC' => q_move (v := .slice _ _ _) rfl rfl) ?_
    refine m_q rfl rfl (fun w' hC' => q_move (v := .int _ _) rfl rfl) ?_
    obtain ⟨b30, o30, ha30, hh30⟩ := hbr13.at (by decide) i (by omega)
    refine m_q rfl rfl (fun w' hC' => q_indexAddr Tryz.underlying52 Tryz.sizeOf66 rfl ha30 rfl (by omega) rfl) ?_
    refine m_q rfl rfl (fun w' hC' => q_fieldAddr (o' := 1) rfl fld66_1 rfl) ?_
    refine m_q rfl rfl (fun w' hC' => q_load Tryz.isAgg3 rfl ((((cells_cast (wide_at RG.len rg0 _ _ (by omega)) hh30) 1 _ rfl).ext hC')) rfl) ?_
    refine m_q rfl rfl (fun w' hC' => q_lss rfl rfl rfl) ?_
    refine m_q rfl rfl (fun w' hC' => q_pick_f (v := .bool _) rfl rfl rfl) ?_
    refine m_nil ?_
    refine r_forget [(2, .slice _ _ _), (4, .int _ _), (5, .pointer _), (11, .slice _ _ _), (13, .slice _ _ _), (15, .slice _ _ _), (17, .bool _), (18, .int _ _), (123, .bool _)] ⟨rfl, rfl, rfl, rfl, rfl, rfl, rfl, rfl, rfl, trivial⟩ (fun e31 => ?_)
    have hk32 : (decide (((((brightM fl G (bitsL (m ||| q))).2).getD i rg0).hi) < ((((brightM fl G (bitsL m)).2).getD i rg0).hi))) = false := decide_eq_false (by omega)
    refine r_cond_f ((congrArg Value.bool hk32 : Value.bool _ = _)) ?_
    refine r_skip ?_
    refine r_draw ext_refl' ext_trans' [0, 1, 2, 3, 4, 5, 6, 7, 8, 9, 10, 11] [] 40 (by kernel_rfl) (by kernel_rfl) ?_
    intro w33 _ hE33
    replace hB := below_ext hB hE33 hsz
    replace hb1 := hb1.ext hE33
    replace hty_b1 := hty_b1.ext hE33
    replace ho6_0 := own_ext ho6_0 hE33
    replace ho9_0 := own_ext ho9_0 hE33
    replace hmr11 := hmr11.ext hE33
    replace ho12_0 := own_ext ho12_0 hE33
    replace hbr13 := hbr13.ext hE33
    replace hmr14 := hmr14.ext hE33
    replace ho15_0 := own_ext ho15_0 hE33
    replace hbr16 := hbr16.ext hE33
    replace hsz := Nat.le_trans hsz hE33.size
    refine m_q rfl rfl (fun w' hC' => q_move (v := .bool _) rfl rfl) ?_
    refine m_q rfl rfl (fun w' hC' => q_move (v := .bool _) rfl rfl) ?_
    refine m_part 125 rfl (fun hc34 => ?_) (fun hc34 => ?_)
    ·
     have g125 := hc34
     refine m_q rfl rfl (fun w' hC' => q_skip rfl) ?_
     refine m_q rfl rfl (fun w' hC' => q_skip rfl) ?_
     refine m_q rfl rfl (fun w' hC' => q_skip rfl) ?_
     refine m_q rfl rfl (fun w' hC' => q_skip rfl) ?_
     refine m_q rfl rfl (fun w' hC' => q_skip rfl) ?_
     refine m_q rfl rfl (fun w' hC' => q_skip rfl) ?_
     refine m_q rfl rfl (fun w' hC' => q_skip rfl) ?_
     refine m_q rfl rfl (fun w' hC' => q_skip rfl) ?_
     refine m_q rfl rfl (fun w' hC' => q_pick_t (v := .bool _) rfl rfl rfl) ?_
     refine m_q rfl rfl (fun w' hC' => q_assign (v := .bool _) rfl rfl) ?_
     refine m_nil ?_
     refine r_forget [(2, .slice _ _ _), (4, .int _ _), (5, .pointer _), (11, .slice _ _ _), (13, .slice _ _ _), (15, .slice _ _ _), (17, .bool _), (18, .int _ _)] ⟨rfl, rfl, rfl, rfl, rfl, rfl, rfl, rfl, trivial⟩ (fun e35 => ?_)
     refine r_inBlock (r_region' ?_)
     refine l_q (q_move (v := .int _ _) rfl rfl) ?_
     refine l_q (q_add rfl rfl (by omega) rfl) ?_
     refine l_q (q_assign (v := .int _ _) rfl rfl) ?_
     refine l_nil ?_
     exact ih23 (i + 1, true) _ _ ⟨⟨rfl, rfl, rfl, rfl, rfl, rfl, rfl, (vint_eq (by omega)), trivial⟩, (by omega), (dim_1 hdm g125), hb1, hty_b1, ho6_0, ho9_0, hmr11, ho12_0, hbr13, hmr14, ho15_0, hbr16, hsz, hB⟩ (by first | omega | (dsimp only; omega))
    ·
     have g125 := hc34
     refine m_q rfl rfl (fun w' hC' => q_move (v := .slice _ _ _) rfl rfl) ?_
     refine m_q rfl rfl (fun w' hC' => q_move (v := .int _ _) rfl rfl) ?_
     obtain ⟨b36, o36, ha36, hh36⟩ := hbr13.at (by decide) i (by omega)
     refine m_q rfl rfl (fun w' hC' => q_indexAddr Tryz.underlying52 Tryz.sizeOf66 rfl ha36 rfl (by omega) rfl) ?_
     refine m_q rfl rfl (fun w' hC' => q_fieldAddr (o' := 0) rfl fld66_0 rfl) ?_
     refine m_q rfl rfl (fun w' hC' => q_load Tryz.isAgg3 rfl ((((cells_cast (wide_at RG.len rg0 _ _ (by omega)) hh36) 0 _ rfl).ext hC')) rfl) ?_
     refine m_q rfl rfl (fun w' hC' => q_fieldAddr (o' := 0) rfl fld51_0 rfl) ?_
     refine m_q rfl rfl (fun w' hC' => q_load Tryz.isAgg3 rfl (((hb1.has (o := 0) rfl).ext hC')) rfl) ?_
     refine m_q rfl rfl (fun w' hC' => q_lss rfl rfl rfl) ?_
     refine m_q rfl rfl (fun w' hC' => q_pick_f (v := .bool _) rfl rfl rfl) ?_
     refine m_q rfl rfl (fun w' hC' => q_assign (v := .bool _) rfl rfl) ?_
     refine m_nil ?_
     refine r_forget [(2, .slice _ _ _), (4, .int _ _), (5, .pointer _), (11, .slice _ _ _), (13, .slice _ _ _), (15, .slice _ _ _), (17, .bool _), (18, .int _ _)] ⟨rfl, rfl, rfl, rfl, rfl, rfl, rfl, rfl, trivial⟩ (fun e37 => ?_)
     refine r_inBlock (r_region' ?_)
     refine l_q (q_move (v := .int _ _) rfl rfl) ?_
     refine l_q (q_add rfl rfl (by omega) rfl) ?_
     refine l_q (q_assign (v := .int _ _) rfl rfl) ?_
     refine l_nil ?_
     exact ih23 (i + 1, (decide (((((brightM fl G (bitsL m)).2).getD i rg0).lo) < fl))) _ _ ⟨⟨rfl, rfl, rfl, rfl, rfl, rfl, rfl, (vint_eq (by omega)), trivial⟩, (by omega), (dim_2 (f := fun j => ((brightM fl G (bitsL m)).2.getD j rg0).lo) hdm g125), hb1, hty_b1, ho6_0, ho9_0, hmr11, ho12_0, hbr13, hmr14, ho15_0, hbr16, hsz, hB⟩ (by first | omega | (dsimp only; omega))
   ·
    replace hc24 := dlt hc24
    refine r_exit rfl ?_
    refine r_seq ?_
    obtain rfl : i = G.length := by omega
    refine r_region' ?_
    refine l_q (q_load_agg (n := 2) Tryz.isAgg51 Tryz.sizeOf51 rfl ((hb1.cells' (cs' := [_, _]) 0 2 rfl)) rfl rfl) ?_
    refine l_o (o_alloct Tryz.zeroValue51 rfl rfl ?_)
    intro b38 w38 hzl38 hzr38 _ hb38 hty_b38 hE38
    have hne_b1_b38 : b1 ≠ b38 := by have := hb1.lt; omega
    have hbs_b38 : w.heap.size ≤ b38 := Nat.le_trans hsz hzl38
    replace hB := below_ext hB hE38 hsz
    replace hb1 := hb1.ext hE38
    replace hty_b1 := hty_b1.ext hE38
    replace ho6_0 := own_ext ho6_0 hE38
    replace ho9_0 := own_ext ho9_0 hE38
    replace ho12_0 := own_ext ho12_0 hE38
    replace ho15_0 := own_ext ho15_0 hE38
    replace hsz := Nat.le_trans hsz hE38.size
    refine l_o (o_storet (vs := [vint fl, .slice ga G.length gc]) (cs' := [vint fl, .slice ga G.length gc]) Tryz.sizeOf51 rfl rfl rfl rfl hb38 (Nat.le_of_ble_eq_true rfl) rfl rfl ?_)
    intro w39 hz39 hb38 hT39 hG39
    replace hB := below_upd hB hG39 hsz (by omega)
    replace hsz : w.heap.size ≤ w39.heap.size := by rw [hz39]; exact hsz
    replace hb1 := hb1.upd hG39 (by omega)
    replace hty_b1 := hty_b1.upd hG39 (by omega)
    replace ho6_0 := own_ty_upd ho6_0 hty_b38 hG39 (by decide)
    replace ho9_0 := own_ty_upd ho9_0 hty_b38 hG39 (by decide)
    replace ho12_0 := own_ty_upd ho12_0 hty_b38 hG39 (by decide)
    replace ho15_0 := own_ty_upd ho15_0 hty_b38 hG39 (by decide)
    replace hty_b38 := hT39 _ hty_b38
    refine l_nil (r_seq (r_region' ?_))
    refine l_q (q_fieldAddr (o' := 0) rfl fld51_0 rfl) ?_
    refine l_q (q_load Tryz.isAgg3 rfl ((hb1.has (o := 0) rfl)) rfl) ?_
    refine l_q (q_move (v := .int _ _) rfl rfl) ?_
    refine l_q (q_toInt Tryz.underlying5 Tryz.underlying3 rfl (by omega) rfl) ?_
    refine l_q (q_rem rfl rfl (by omega) rfl) ?_
    refine l_q (q_sub rfl rfl (by omega) rfl) ?_
    refine l_q (q_max rfl rfl rfl) ?_
    refine l_q (q_fieldAddr (o' := 0) rfl fld51_0 rfl) ?_
    refine l_o (o_storet (vs := [vint (max 0 (fl - (le % 40)))]) (cs' := [vint (max 0 (fl - (le % 40))), .slice ga G.length gc]) Tryz.sizeOf3 rfl rfl rfl rfl hb38 (Nat.le_of_ble_eq_true rfl) rfl rfl ?_)
    intro w40 hz40 hb38 hT40 hG40
    replace hB := below_upd hB hG40 hsz (by omega)
    replace hsz : w.heap.size ≤ w40.heap.size := by rw [hz40]; exact hsz
    replace hb1 := hb1.upd hG40 (by omega)
    replace hty_b1 := hty_b1.upd hG40 (by omega)
    replace ho6_0 := own_ty_upd ho6_0 hty_b38 hG40 (by decide)
    replace ho9_0 := own_ty_upd ho9_0 hty_b38 hG40 (by decide)
    replace ho12_0 := own_ty_upd ho12_0 hty_b38 hG40 (by decide)
    replace ho15_0 := own_ty_upd ho15_0 hty_b38 hG40 (by decide)
    replace hty_b38 := hT40 _ hty_b38
    refine l_nil ?_
    refine r_forget [(2, .slice _ _ _), (5, .pointer _), (11, .slice _ _ _), (17, .bool _), (19, .pointer _)] ⟨rfl, rfl, rfl, rfl, rfl, trivial⟩ (fun e41 => ?_)
    refine r_seq ?_
    have hl0 := Int.emod_nonneg le (show (40 : Int) ≠ 0 by decide)
    have hl1 := Int.emod_lt_of_pos le (show (0 : Int) < 40 by decide)
    have hm2 := less_ok (n := le % 40) hm hl0
    refine r_region' ?_
    refine l_q (q_load_agg (n := 2) Tryz.isAgg51 Tryz.sizeOf51 rfl ((hb1.cells' (cs' := [_, _]) 0 2 rfl)) rfl rfl) ?_
    refine l_o (o_call Tryz.call32 rfl (mirror10_ret fl ga gc G _ (hG.below hB) (by omega)) rfl ?_)
    rintro _ w42 ⟨ga42, gc42, rfl, hmr42, hE42⟩
    replace hB := below_ext hB hE42 hsz
    replace hb1 := hb1.ext hE42
    replace hty_b1 := hty_b1.ext hE42
    replace ho6_0 := own_ext ho6_0 hE42
    replace ho9_0 := own_ext ho9_0 hE42
    replace ho12_0 := own_ext ho12_0 hE42
    replace ho15_0 := own_ext ho15_0 hE42
    replace hb38 := hb38.ext hE42
    replace hty_b38 := hty_b38.ext hE42
    replace hsz := Nat.le_trans hsz hE42.size
    refine l_o (o_call Tryz.call34 rfl ((by have h := polish_ret fl ga42 gc42 G _ hmr42 (by omega); exact h)) rfl ?_)
    rintro _ w43 ⟨la43, lc43, rfl, hpl43, hE43⟩
    replace hB := below_ext hB hE43 hsz
    replace hb1 := hb1.ext hE43
    replace hty_b1 := hty_b1.ext hE43
    replace ho6_0 := own_ext ho6_0 hE43
    replace ho9_0 := own_ext ho9_0 hE43
    replace ho12_0 := own_ext ho12_0 hE43
    replace ho15_0 := own_ext ho15_0 hE43
    replace hb38 := hb38.ext hE43
    replace hty_b38 := hty_b38.ext hE43
    replace hmr42 := hmr42.ext hE43
    replace hsz := Nat.le_trans hsz hE43.size
    refine l_q (q_move (v := .tuple _) rfl rfl) ?_
    refine l_q (q_extract (vs := [_, _]) (v := .slice _ _ _) rfl rfl rfl) ?_
    refine l_q (q_extract (vs := [_, _]) (v := .int _ _) rfl rfl rfl) ?_
    refine l_q (q_assign (v := .slice _ _ _) rfl rfl) ?_
    refine l_q (q_assign (v := .int _ _) rfl rfl) ?_
    refine l_nil (r_seq (r_region' ?_))
    refine l_q (q_load_agg (n := 2) Tryz.isAgg51 Tryz.sizeOf51 rfl ((hb38.cells' (cs' := [_, _]) 0 2 rfl)) rfl rfl) ?_
    refine l_o (o_call Tryz.call32 rfl (mirror10_ret (max 0 (fl - (le % 40))) ga gc G _ (hG.below hB) (by omega)) rfl ?_)
    rintro _ w44 ⟨ga44, gc44, rfl, hmr44, hE44⟩
    replace hB := below_ext hB hE44 hsz
    replace hb1 := hb1.ext hE44
    replace hty_b1 := hty_b1.ext hE44
    replace ho6_0 := own_ext ho6_0 hE44
    replace ho9_0 := own_ext ho9_0 hE44
    replace ho12_0 := own_ext ho12_0 hE44
    replace ho15_0 := own_ext ho15_0 hE44
    replace hb38 := hb38.ext hE44
    replace hty_b38 := hty_b38.ext hE44
    replace hmr42 := hmr42.ext hE44
    replace hpl43 := hpl43.ext hE44
    replace hsz := Nat.le_trans hsz hE44.size
    refine l_o (o_call Tryz.call34 rfl ((by have h := polish_ret (max 0 (fl - (le % 40))) ga44 gc44 G _ hmr44 (by omega); exact h)) rfl ?_)
    rintro _ w45 ⟨la45, lc45, rfl, hpl45, hE45⟩
    replace hB := below_ext hB hE45 hsz
    replace hb1 := hb1.ext hE45
    replace hty_b1 := hty_b1.ext hE45
    replace ho6_0 := own_ext ho6_0 hE45
    replace ho9_0 := own_ext ho9_0 hE45
    replace ho12_0 := own_ext ho12_0 hE45
    replace ho15_0 := own_ext ho15_0 hE45
    replace hb38 := hb38.ext hE45
    replace hty_b38 := hty_b38.ext hE45
    replace hmr42 := hmr42.ext hE45
    replace hpl43 := hpl43.ext hE45
    replace hmr44 := hmr44.ext hE45
    replace hsz := Nat.le_trans hsz hE45.size
    refine l_q (q_move (v := .tuple _) rfl rfl) ?_
    refine l_q (q_extract (vs := [_, _]) (v := .slice _ _ _) rfl rfl rfl) ?_
    refine l_q (q_extract (vs := [_, _]) (v := .int _ _) rfl rfl rfl) ?_
    refine l_q (q_assign (v := .slice _ _ _) rfl rfl) ?_
    refine l_q (q_assign (v := .int _ _) rfl rfl) ?_
    refine l_nil ?_
    refine r_forget [(2, .slice _ _ _), (5, .pointer _), (11, .slice _ _ _), (17, .bool _), (20, .slice _ _ _), (21, .int _ _), (22, .slice _ _ _), (23, .int _ _)] ⟨rfl, rfl, rfl, rfl, rfl, rfl, rfl, rfl, trivial⟩ (fun e46 => ?_)
    refine r_seq (r_seq (r_region' ?_))
    refine l_q (q_move (v := .int _ _) rfl rfl) ?_
    refine l_q (q_neq rfl rfl rfl) ?_
    refine l_nil ?_
    refine r_cond rfl (fun hc47 => ?_) (fun hc47 => ?_)
    ·
     replace hc47 := df (nt hc47)
     obtain ⟨hpR, hpn⟩ := pol_no' hm hc47
     refine r_seq (r_region' ?_)
     refine l_q (q_move (v := .int _ _) rfl rfl) ?_
     refine l_q (q_eql rfl rfl rfl) ?_
     refine l_q (q_move (v := .bool _) rfl rfl) ?_
     have hk48 : (decide (((polishM fl G).1) = 10)) = true := decide_eq_true (by rw [hpR])
     refine l_part 160 rfl (fun _ => ?_) (fun hx => absurd (hk48.symm.trans hx) (by decide))
     refine l_q (q_move (v := .bool _) rfl rfl) ?_
     refine l_q (q_pick_t (v := .bool _) rfl rfl rfl) ?_
     refine l_q (q_move (v := .bool _) rfl rfl) ?_
     have hk49 : dm = true := by rw [hdm, dim_stays hm hris, hpn _ hris]; rfl
     refine l_part 163 rfl (fun _ => ?_) (fun hx => absurd (hk49.symm.trans hx) (by decide))
     refine l_q (q_move (v := .int _ _) rfl rfl) ?_
     refine l_q (q_eql rfl rfl rfl) ?_
     refine l_q (q_move (v := .bool _) rfl rfl) ?_
     refine l_part 166 rfl (fun hc50 => ?_) (fun hc50 => ?_)
     ·
      replace hc50 := dt hc50
      refine l_q (q_skip rfl) ?_
      refine l_q (q_skip rfl) ?_
      refine l_q (q_pick_t (v := .bool _) rfl rfl rfl) ?_
      refine l_q (q_pick_t (v := .bool _) rfl rfl rfl) ?_
      refine l_q (q_move (v := .bool _) rfl rfl) ?_
      refine l_o (o_call Tryz.call17 rfl (awake_ret _) rfl ?_)
      rintro _ w51 ⟨rfl, hE51⟩
      replace hB := below_ext hB hE51 hsz
      replace hb1 := hb1.ext hE51
      replace hty_b1 := hty_b1.ext hE51
      replace ho6_0 := own_ext ho6_0 hE51
      replace ho9_0 := own_ext ho9_0 hE51
      replace ho12_0 := own_ext ho12_0 hE51
      replace ho15_0 := own_ext ho15_0 hE51
      replace hb38 := hb38.ext hE51
      replace hty_b38 := hty_b38.ext hE51
      replace hmr42 := hmr42.ext hE51
      replace hpl43 := hpl43.ext hE51
      replace hmr44 := hmr44.ext hE51
      replace hpl45 := hpl45.ext hE51
      replace hsz := Nat.le_trans hsz hE51.size
      refine l_q (q_pick_t (v := .bool _) rfl rfl rfl) ?_
      refine l_q (q_assign (v := .bool _) rfl rfl) ?_
      refine l_nil ?_
      refine r_forget [(10, .bool _)] ⟨rfl, trivial⟩ (fun e52 => ?_)
      refine r_ret_ (vs := [.bool _]) rfl Tryz.func10 rfl (.nil _) ⟨rfl, trivial⟩ ?_
      exact ⟨rfl, Ext.of_below hB⟩
     ·
      replace hc50 := df hc50
      have g166 := hc50
      refine l_q (q_move (v := .int _ _) rfl rfl) ?_
      refine l_q (q_eql rfl rfl rfl) ?_
      refine l_q (q_pick_f (v := .bool _) rfl rfl rfl) ?_
      refine l_q (q_pick_t (v := .bool _) rfl rfl rfl) ?_
      refine l_q (q_move (v := .bool _) rfl rfl) ?_
      have hk53 : (decide (((polishM (max 0 (fl - (le % 40))) G).1) = 10)) = true := by first | rfl | exact decide_eq_true ((pol_or hm2).resolve_left g166)
      refine l_part 171 rfl (fun _ => ?_) (fun hx => absurd (hk53.symm.trans hx) (by decide))
      refine l_o (o_call Tryz.call17 rfl (awake_ret _) rfl ?_)
      rintro _ w54 ⟨rfl, hE54⟩
      replace hB := below_ext hB hE54 hsz
      replace hb1 := hb1.ext hE54
      replace hty_b1 := hty_b1.ext hE54
      replace ho6_0 := own_ext ho6_0 hE54
      replace ho9_0 := own_ext ho9_0 hE54
      replace ho12_0 := own_ext ho12_0 hE54
      replace ho15_0 := own_ext ho15_0 hE54
      replace hb38 := hb38.ext hE54
      replace hty_b38 := hty_b38.ext hE54
      replace hmr42 := hmr42.ext hE54
      replace hpl43 := hpl43.ext hE54
      replace hmr44 := hmr44.ext hE54
      replace hpl45 := hpl45.ext hE54
      replace hsz := Nat.le_trans hsz hE54.size
      refine l_q (q_pick_t (v := .bool _) rfl rfl rfl) ?_
      refine l_q (q_assign (v := .bool _) rfl rfl) ?_
      refine l_nil ?_
      refine r_forget [(10, .bool _)] ⟨rfl, trivial⟩ (fun e55 => ?_)
      refine r_ret_ (vs := [.bool _]) rfl Tryz.func10 rfl (.nil _) ⟨rfl, trivial⟩ ?_
      exact ⟨rfl, Ext.of_below hB⟩
    ·
     replace hc47 := dt (nf hc47)
     have hp0 : (polishM fl G).1 = 0 := hc47
     obtain ⟨hp1, hp2, hp3⟩ := pol_yes' hm hp0
     obtain ⟨hk0, hkl⟩ := less_pol (n := le % 40) hm hl0 hp0
     refine r_skip (r_seq (r_seq (r_region' ?_)))
     refine l_q (q_move (v := .int _ _) rfl rfl) ?_
     refine l_q (q_neq rfl rfl rfl) ?_
     refine l_q (q_move (v := .bool _) rfl rfl) ?_
     have hk56 : (!decide (((polishM (max 0 (fl - (le % 40))) G).1) = 0)) = false := by rw [hk0]; rfl
     refine l_part 176 rfl (fun hx => absurd (hk56.symm.trans hx) (by decide)) (fun _ => ?_)
     refine l_q (q_move (v := .slice _ _ _) rfl rfl) ?_
     refine l_q (q_len rfl Tryz.underlying22 rfl rfl) ?_
     refine l_q (q_move (v := .slice _ _ _) rfl rfl) ?_
     refine l_q (q_len rfl Tryz.underlying22 rfl rfl) ?_
     refine l_q (q_gtr rfl rfl rfl) ?_
     refine l_q (q_pick_f (v := .bool _) rfl rfl rfl) ?_
     refine l_q (q_move (v := .bool _) rfl rfl) ?_
     have hk57 : (decide ((((polishM fl G).2).length : Int) < (((polishM (max 0 (fl - (le % 40))) G).2).length : Int))) = false := decide_eq_false (by omega)
     refine l_part 183 rfl (fun hx => absurd (hk57.symm.trans hx) (by decide)) (fun _ => ?_)
     refine l_q (q_move (v := .slice _ _ _) rfl rfl) ?_
     refine l_q (q_fieldAddr (o' := 1) rfl fld51_1 rfl) ?_
     refine l_q (q_load Tryz.isAgg49 rfl ((hb1.has (o := 1) rfl)) rfl) ?_
     refine l_q (q_len rfl Tryz.underlying49 rfl rfl) ?_
     refine l_o (o_call Tryz.call37 rfl (rising_ret _ _ ((polishM fl G).2) _ _ hpl43 (Nat.le_trans (poll_len hm) (by decide)) (by omega)) rfl ?_)
     rintro _ w58 ⟨rfl, hE58⟩
     replace hB := below_ext hB hE58 hsz
     replace hb1 := hb1.ext hE58
     replace hty_b1 := hty_b1.ext hE58
     replace ho6_0 := own_ext ho6_0 hE58
     replace ho9_0 := own_ext ho9_0 hE58
     replace ho12_0 := own_ext ho12_0 hE58
     replace ho15_0 := own_ext ho15_0 hE58
     replace hb38 := hb38.ext hE58
     replace hty_b38 := hty_b38.ext hE58
     replace hmr42 := hmr42.ext hE58
     replace hpl43 := hpl43.ext hE58
     replace hmr44 := hmr44.ext hE58
     replace hpl45 := hpl45.ext hE58
     replace hsz := Nat.le_trans hsz hE58.size
     refine l_q (q_not rfl rfl) ?_
     refine l_q (q_pick_f (v := .bool _) rfl rfl rfl) ?_
     refine l_q (q_move (v := .bool _) rfl rfl) ?_
     have hk59 : (!(risB ((polishM fl G).2) (G.length : Int))) = false := by rw [hp1]; rfl
     refine l_part 191 rfl (fun hx => absurd (hk59.symm.trans hx) (by decide)) (fun _ => ?_)
     refine l_q (q_move (v := .bool _) rfl rfl) ?_
     refine l_q (q_not rfl rfl) ?_
     refine l_q (q_move (v := .bool _) rfl rfl) ?_
     refine l_part 194 rfl (fun hc60 => ?_) (fun hc60 => ?_)
     ·
      replace hc60 := nt hc60
      have g194 := hc60
      refine l_q (q_move (v := .slice _ _ _) rfl rfl) ?_
      refine l_q (q_move (v := .slice _ _ _) rfl rfl) ?_
      refine l_o (o_call Tryz.call48 rfl (short10_ret _ _ (bitsL m) _ _ ((polishM fl G).2) _ (Row.of_owns ho6_0) (Nat.le_trans (bits_len _) (by decide)) hpl43 (Nat.le_trans (poll_len hm) (by decide))) rfl ?_)
      rintro _ w61 ⟨rfl, hE61⟩
      replace hB := below_ext hB hE61 hsz
      replace hb1 := hb1.ext hE61
      replace hty_b1 := hty_b1.ext hE61
      replace ho6_0 := own_ext ho6_0 hE61
      replace ho9_0 := own_ext ho9_0 hE61
      replace ho12_0 := own_ext ho12_0 hE61
      replace ho15_0 := own_ext ho15_0 hE61
      replace hb38 := hb38.ext hE61
      replace hty_b38 := hty_b38.ext hE61
      replace hmr42 := hmr42.ext hE61
      replace hpl43 := hpl43.ext hE61
      replace hmr44 := hmr44.ext hE61
      replace hpl45 := hpl45.ext hE61
      replace hsz := Nat.le_trans hsz hE61.size
      refine l_q (q_pick_t (v := .bool _) rfl rfl rfl) ?_
      refine l_q (q_pick_f (v := .bool _) rfl rfl rfl) ?_
      refine l_nil ?_
      refine r_forget [(2, .slice _ _ _), (5, .pointer _), (20, .slice _ _ _), (199, .bool _)] ⟨rfl, rfl, rfl, rfl, trivial⟩ (fun e62 => ?_)
      have hk63 : (ltL (bitsL m) ((polishM fl G).2)) = false := by first | rfl | exact hp3 _ hris (dim_no hm hris hdm g194)
      refine r_cond_f ((congrArg Value.bool hk63 : Value.bool _ = _)) ?_
      refine r_skip (r_seq ?_)
      refine r_draw ext_refl' ext_trans' [0, 1, 2, 3, 4, 5, 6] [4, 5] 20 (by kernel_rfl) (by kernel_rfl) ?_
      intro w64 _ hE64
      replace hB := below_ext hB hE64 hsz
      replace hb1 := hb1.ext hE64
      replace hty_b1 := hty_b1.ext hE64
      replace ho6_0 := own_ext ho6_0 hE64
      replace ho9_0 := own_ext ho9_0 hE64
      replace ho12_0 := own_ext ho12_0 hE64
      replace ho15_0 := own_ext ho15_0 hE64
      replace hb38 := hb38.ext hE64
      replace hty_b38 := hty_b38.ext hE64
      replace hmr42 := hmr42.ext hE64
      replace hpl43 := hpl43.ext hE64
      replace hmr44 := hmr44.ext hE64
      replace hpl45 := hpl45.ext hE64
      replace hsz := Nat.le_trans hsz hE64.size
      refine m_q rfl rfl (fun w' hC' => q_load_agg (n := 2) Tryz.isAgg51 Tryz.sizeOf51 rfl (((hb1.cells' (cs' := [_, _]) 0 2 rfl).ext hC')) rfl rfl) ?_
      refine m_q rfl rfl (fun w' hC' => q_move (v := .slice _ _ _) rfl rfl) ?_
      refine m_q rfl rfl (fun w' hC' => q_load_agg (n := 2) Tryz.isAgg51 Tryz.sizeOf51 rfl (((hb1.cells' (cs' := [_, _]) 0 2 rfl).ext hC')) rfl rfl) ?_
      refine m_q rfl rfl (fun w' hC' => q_move (v := .slice _ _ _) rfl rfl) ?_
      refine m_o rfl rfl (o_call Tryz.call49 rfl (truly_ret fl ga gc G _ _ ws _ (hG.below hB) hGn (hwd.below hB) hwn hwr hrg) rfl ?_)
      rintro _ w65 ⟨ta, tc, T, rfl, hT65, hTr, hE65⟩
      replace hT65 := own_mono hT65 (show w.heap.size ≤ _ by omega)
      refine ⟨hE65, ?_⟩
      replace hB := below_ext hB hE65 hsz
      replace hb1 := hb1.ext hE65
      replace hty_b1 := hty_b1.ext hE65
      replace ho6_0 := own_ext ho6_0 hE65
      replace ho9_0 := own_ext ho9_0 hE65
      replace ho12_0 := own_ext ho12_0 hE65
      replace ho15_0 := own_ext ho15_0 hE65
      replace hb38 := hb38.ext hE65
      replace hty_b38 := hty_b38.ext hE65
      replace hmr42 := hmr42.ext hE65
      replace hpl43 := hpl43.ext hE65
      replace hmr44 := hmr44.ext hE65
      replace hpl45 := hpl45.ext hE65
      replace hsz := Nat.le_trans hsz hE65.size
      have hTl := hTr.1
      refine m_o rfl rfl (o_call Tryz.call38 rfl (dims10_ret fl ga gc G _ _ ((polishM fl G).2) _ _ T _ (hG.below hB) hGn hpl43 (Nat.le_trans (poll_len hm) (by decide)) (Row.of_owns hT65) (by omega) (by omega) (tru_bnd hrg hTr)) rfl ?_)
      rintro _ w66 ⟨a66_0, c66_0, rfl, ho66_0, hE66⟩
      replace ho66_0 := own_mono ho66_0 (show w.heap.size ≤ _ by omega)
      refine ⟨hE66, ?_⟩
      replace hB := below_ext hB hE66 hsz
      replace hb1 := hb1.ext hE66
      replace hty_b1 := hty_b1.ext hE66
      replace ho6_0 := own_ext ho6_0 hE66
      replace ho9_0 := own_ext ho9_0 hE66
      replace ho12_0 := own_ext ho12_0 hE66
      replace ho15_0 := own_ext ho15_0 hE66
      replace hb38 := hb38.ext hE66
      replace hty_b38 := hty_b38.ext hE66
      replace hmr42 := hmr42.ext hE66
      replace hpl43 := hpl43.ext hE66
      replace hmr44 := hmr44.ext hE66
      replace hpl45 := hpl45.ext hE66
      replace hT65 := own_ext hT65 hE66
      replace hsz := Nat.le_trans hsz hE66.size
      refine m_q rfl rfl (fun w' hC' => q_assign (v := .slice _ _ _) rfl rfl) ?_
      refine m_nil ?_
      refine r_seq (r_seq (r_region' ?_))
      refine l_q (q_assign (v := .int _ _) rfl rfl) ?_
      refine l_nil (r_block ?_)
      refine r_rounds (α := Nat) (fun i e wl => Knows e [(5, ptr b1 0), (20, .slice la43 (((polishM fl G).2).length) lc43), (24, .slice a66_0 ((dimsT ((polishM fl G).2) T G.length).length) c66_0), (25, vint (i : Int))] ∧ (i ≤ G.length) ∧ (Blk wl b1 [vint fl, .slice ga G.length gc]) ∧ (TyAt wl b1 51) ∧ (wl.ownsRow w.heap.size 3 1 (.slice a6_0 ((bitsL m).length) c6_0) ((bitsL m).length) ((bitsL m).map vint)) ∧ (wl.ownsRow w.heap.size 3 1 (.slice a9_0 ((bitsL (m ||| q)).length) c9_0) ((bitsL (m ||| q)).length) ((bitsL (m ||| q)).map vint)) ∧ (wl.ownsRow w.heap.size 3 1 (.slice a12_0 (((bitsL m)).length) c12_0) (((bitsL m)).length) (((bitsL m)).map vint)) ∧ (wl.ownsRow w.heap.size 3 1 (.slice a15_0 (((bitsL (m ||| q))).length) c15_0) (((bitsL (m ||| q))).length) (((bitsL (m ||| q))).map vint)) ∧ (Blk wl b38 [vint (max 0 (fl - (le % 40))), .slice ga G.length gc]) ∧ (TyAt wl b38 51) ∧ (Row wl ga42 G.length gc42 2 (G.flatMap RG.enc)) ∧ (Row wl la43 (((polishM fl G).2).length) lc43 1 (((polishM fl G).2).map vint)) ∧ (Row wl ga44 G.length gc44 2 (G.flatMap RG.enc)) ∧ (Row wl la45 (((polishM (max 0 (fl - (le % 40))) G).2).length) lc45 1 (((polishM (max 0 (fl - (le % 40))) G).2).map vint)) ∧ (wl.ownsRow w.heap.size 3 1 (.slice ta ((T).length) tc) ((T).length) ((T).map vint)) ∧ (wl.ownsRow w.heap.size 3 1 (.slice a66_0 ((dimsT ((polishM fl G).2) T G.length).length) c66_0) ((dimsT ((polishM fl G).2) T G.length).length) ((dimsT ((polishM fl G).2) T G.length).map vint)) ∧ (w.heap.size ≤ wl.heap.size) ∧ (Below w.heap.size w wl)) (fun i => G.length - i) 0 ?_ ?_
      ·
       exact ⟨⟨rfl, rfl, rfl, rfl, trivial⟩, (Nat.zero_le _), hb1, hty_b1, ho6_0, ho9_0, ho12_0, ho15_0, hb38, hty_b38, hmr42, hpl43, hmr44, hpl45, hT65, ho66_0, hsz, hB⟩
      ·
       rintro i el67 wl67 ⟨hkn, hki, hb1, hty_b1, ho6_0, ho9_0, ho12_0, ho15_0, hb38, hty_b38, hmr42, hpl43, hmr44, hpl45, hT65, ho66_0, hsz, hB⟩ ih67
       obtain ⟨e67, rfl⟩ := knows_env hkn
       refine r_seq (r_seq (r_region' ?_))
       refine l_q (q_move (v := .int _ _) rfl rfl) ?_
       refine l_q (q_move (v := .slice _ _ _) rfl rfl) ?_
       refine l_q (q_len rfl Tryz.underlying22 rfl rfl) ?_
       refine l_q (q_lss rfl rfl rfl) ?_
       refine l_nil ?_
       refine r_cond rfl (fun hc68 => ?_) (fun hc68 => ?_)
       ·
        replace hc68 := dt hc68
        have hiD : i < G.length := by have h := hc68; rw [dimsT_len] at h; omega
        refine r_skip (r_seq (r_block (r_seq ?_)))
        refine r_draw ext_refl' ext_trans' [0, 1, 2, 3, 4, 5, 6] [] 20 (by kernel_rfl) (by kernel_rfl) ?_
        intro w69 _ hE69
        replace hB := below_ext hB hE69 hsz
        replace hb1 := hb1.ext hE69
        replace hty_b1 := hty_b1.ext hE69
        replace ho6_0 := own_ext ho6_0 hE69
        replace ho9_0 := own_ext ho9_0 hE69
        replace ho12_0 := own_ext ho12_0 hE69
        replace ho15_0 := own_ext ho15_0 hE69
        replace hb38 := hb38.ext hE69
        replace hty_b38 := hty_b38.ext hE69
        replace hmr42 := hmr42.ext hE69
        replace hpl43 := hpl43.ext hE69
        replace hmr44 := hmr44.ext hE69
        replace hpl45 := hpl45.ext hE69
        replace hT65 := own_ext hT65 hE69
        replace ho66_0 := own_ext ho66_0 hE69
        replace hsz := Nat.le_trans hsz hE69.size
        refine m_q rfl rfl (fun w' hC' => q_move (v := .slice _ _ _) rfl rfl) ?_
        refine m_q rfl rfl (fun w' hC' => q_move (v := .int _ _) rfl rfl) ?_
        obtain ⟨b70, o70, ha70, hh70⟩ := (Row.of_owns ho66_0).at1 i ((dimsT ((polishM fl G).2) T G.length).getD i 0) (getD_some (by omega))
        refine m_q rfl rfl (fun w' hC' => q_indexAddr1 Tryz.underlying22 Tryz.sizeOf3 rfl ha70 rfl (by omega) rfl) ?_
        refine m_q rfl rfl (fun w' hC' => q_load Tryz.isAgg3 rfl ((hh70.ext hC')) rfl) ?_
        refine m_q rfl rfl (fun w' hC' => q_fieldAddr (o' := 0) rfl fld51_0 rfl) ?_
        refine m_q rfl rfl (fun w' hC' => q_load Tryz.isAgg3 rfl (((hb1.has (o := 0) rfl).ext hC')) rfl) ?_
        refine m_q rfl rfl (fun w' hC' => q_lss rfl rfl rfl) ?_
        refine m_nil ?_
        refine r_forget [(5, .pointer _), (20, .slice _ _ _), (24, .slice _ _ _), (25, .int _ _), (218, .bool _)] ⟨rfl, rfl, rfl, rfl, rfl, trivial⟩ (fun e71 => ?_)
        have hk72 : (decide (((dimsT ((polishM fl G).2) T G.length).getD i 0) < fl)) = false := decide_eq_false (by have := tru_bright hrg hTr hp2 hiD; omega)
        refine r_cond_f ((congrArg Value.bool hk72 : Value.bool _ = _)) ?_
        refine r_skip (r_inBlock (r_region' ?_))
        refine l_q (q_move (v := .int _ _) rfl rfl) ?_
        refine l_q (q_add rfl rfl (by omega) rfl) ?_
        refine l_q (q_assign (v := .int _ _) rfl rfl) ?_
        refine l_nil ?_
        exact ih67 (i + 1) _ _ ⟨⟨rfl, rfl, rfl, by first | rfl | exact vint_eq (by omega), trivial⟩, (by omega), hb1, hty_b1, ho6_0, ho9_0, ho12_0, ho15_0, hb38, hty_b38, hmr42, hpl43, hmr44, hpl45, hT65, ho66_0, hsz, hB⟩ (by first | omega | (dsimp only; omega))
       ·
        replace hc68 := dlt hc68
        refine r_exit rfl ?_
        refine r_seq (r_region' ?_)
        refine l_q (q_load_agg (n := 2) Tryz.isAgg51 Tryz.sizeOf51 rfl ((hb1.cells' (cs' := [_, _]) 0 2 rfl)) rfl rfl) ?_
        refine l_q (q_move (v := .slice _ _ _) rfl rfl) ?_
        refine l_o (o_call Tryz.call50 rfl (stays10_ret fl ga gc G _ _ ((polishM fl G).2) _ (hG.below hB) hGn hpl43 (Nat.le_trans (poll_len hm) (by decide)) hrg) rfl ?_)
        rintro _ w73 ⟨rfl, hE73⟩
        replace hB := below_ext hB hE73 hsz
        replace hb1 := hb1.ext hE73
        replace hty_b1 := hty_b1.ext hE73
        replace ho6_0 := own_ext ho6_0 hE73
        replace ho9_0 := own_ext ho9_0 hE73
        replace ho12_0 := own_ext ho12_0 hE73
        replace ho15_0 := own_ext ho15_0 hE73
        replace hb38 := hb38.ext hE73
        replace hty_b38 := hty_b38.ext hE73
        replace hmr42 := hmr42.ext hE73
        replace hpl43 := hpl43.ext hE73
        replace hmr44 := hmr44.ext hE73
        replace hpl45 := hpl45.ext hE73
        replace hsz := Nat.le_trans hsz hE73.size
        refine l_q (q_move (v := .bool _) rfl rfl) ?_
        have hk74 : (staysB fl G ((polishM fl G).2)) = true := hp2
        refine l_part 222 rfl (fun _ => ?_) (fun hx => absurd (hk74.symm.trans hx) (by decide))
        refine l_o (o_call Tryz.call17 rfl (awake_ret _) rfl ?_)
        rintro _ w75 ⟨rfl, hE75⟩
        replace hB := below_ext hB hE75 hsz
        replace hb1 := hb1.ext hE75
        replace hty_b1 := hty_b1.ext hE75
        replace ho6_0 := own_ext ho6_0 hE75
        replace ho9_0 := own_ext ho9_0 hE75
        replace ho12_0 := own_ext ho12_0 hE75
        replace ho15_0 := own_ext ho15_0 hE75
        replace hb38 := hb38.ext hE75
        replace hty_b38 := hty_b38.ext hE75
        replace hmr42 := hmr42.ext hE75
        replace hpl43 := hpl43.ext hE75
        replace hmr44 := hmr44.ext hE75
        replace hpl45 := hpl45.ext hE75
        replace hsz := Nat.le_trans hsz hE75.size
        refine l_q (q_pick_t (v := .bool _) rfl rfl rfl) ?_
        refine l_q (q_assign (v := .bool _) rfl rfl) ?_
        refine l_nil ?_
        refine r_forget [(10, .bool _)] ⟨rfl, trivial⟩ (fun e76 => ?_)
        refine r_ret_ (vs := [.bool _]) rfl Tryz.func10 rfl (.nil _) ⟨rfl, trivial⟩ ?_
        exact ⟨rfl, Ext.of_below hB⟩
     ·
      replace hc60 := nf hc60
      refine l_q (q_skip rfl) ?_
      refine l_q (q_skip rfl) ?_
      refine l_q (q_skip rfl) ?_
      refine l_q (q_pick_f (v := .bool _) rfl rfl rfl) ?_
      refine l_q (q_pick_f (v := .bool _) rfl rfl rfl) ?_
      refine l_nil ?_
      refine r_forget [(2, .slice _ _ _), (5, .pointer _), (20, .slice _ _ _), (199, .bool _)] ⟨rfl, rfl, rfl, rfl, trivial⟩ (fun e77 => ?_)
      refine r_cond_f rfl ?_
      refine r_skip (r_seq ?_)
      refine r_draw ext_refl' ext_trans' [0, 1, 2, 3, 4, 5, 6] [4, 5] 20 (by kernel_rfl) (by kernel_rfl) ?_
      intro w78 _ hE78
      replace hB := below_ext hB hE78 hsz
      replace hb1 := hb1.ext hE78
      replace hty_b1 := hty_b1.ext hE78
      replace ho6_0 := own_ext ho6_0 hE78
      replace ho9_0 := own_ext ho9_0 hE78
      replace ho12_0 := own_ext ho12_0 hE78
      replace ho15_0 := own_ext ho15_0 hE78
      replace hb38 := hb38.ext hE78
      replace hty_b38 := hty_b38.ext hE78
      replace hmr42 := hmr42.ext hE78
      replace hpl43 := hpl43.ext hE78
      replace hmr44 := hmr44.ext hE78
      replace hpl45 := hpl45.ext hE78
      replace hsz := Nat.le_trans hsz hE78.size
      refine m_q rfl rfl (fun w' hC' => q_load_agg (n := 2) Tryz.isAgg51 Tryz.sizeOf51 rfl (((hb1.cells' (cs' := [_, _]) 0 2 rfl).ext hC')) rfl rfl) ?_
      refine m_q rfl rfl (fun w' hC' => q_move (v := .slice _ _ _) rfl rfl) ?_
      refine m_q rfl rfl (fun w' hC' => q_load_agg (n := 2) Tryz.isAgg51 Tryz.sizeOf51 rfl (((hb1.cells' (cs' := [_, _]) 0 2 rfl).ext hC')) rfl rfl) ?_
      refine m_q rfl rfl (fun w' hC' => q_move (v := .slice _ _ _) rfl rfl) ?_
      refine m_o rfl rfl (o_call Tryz.call49 rfl (truly_ret fl ga gc G _ _ ws _ (hG.below hB) hGn (hwd.below hB) hwn hwr hrg) rfl ?_)
      rintro _ w79 ⟨ta, tc, T, rfl, hT79, hTr, hE79⟩
      replace hT79 := own_mono hT79 (show w.heap.size ≤ _ by omega)
      refine ⟨hE79, ?_⟩
      replace hB := below_ext hB hE79 hsz
      replace hb1 := hb1.ext hE79
      replace hty_b1 := hty_b1.ext hE79
      replace ho6_0 := own_ext ho6_0 hE79
      replace ho9_0 := own_ext ho9_0 hE79
      replace ho12_0 := own_ext ho12_0 hE79
      replace ho15_0 := own_ext ho15_0 hE79
      replace hb38 := hb38.ext hE79
      replace hty_b38 := hty_b38.ext hE79
      replace hmr42 := hmr42.ext hE79
      replace hpl43 := hpl43.ext hE79
      replace hmr44 := hmr44.ext hE79
      replace hpl45 := hpl45.ext hE79
      replace hsz := Nat.le_trans hsz hE79.size
      have hTl := hTr.1
      refine m_o rfl rfl (o_call Tryz.call38 rfl (dims10_ret fl ga gc G _ _ ((polishM fl G).2) _ _ T _ (hG.below hB) hGn hpl43 (Nat.le_trans (poll_len hm) (by decide)) (Row.of_owns hT79) (by omega) (by omega) (tru_bnd hrg hTr)) rfl ?_)
      rintro _ w80 ⟨a80_0, c80_0, rfl, ho80_0, hE80⟩
      replace ho80_0 := own_mono ho80_0 (show w.heap.size ≤ _ by omega)
      refine ⟨hE80, ?_⟩
      replace hB := below_ext hB hE80 hsz
      replace hb1 := hb1.ext hE80
      replace hty_b1 := hty_b1.ext hE80
      replace ho6_0 := own_ext ho6_0 hE80
      replace ho9_0 := own_ext ho9_0 hE80
      replace ho12_0 := own_ext ho12_0 hE80
      replace ho15_0 := own_ext ho15_0 hE80
      replace hb38 := hb38.ext hE80
      replace hty_b38 := hty_b38.ext hE80
      replace hmr42 := hmr42.ext hE80
      replace hpl43 := hpl43.ext hE80
      replace hmr44 := hmr44.ext hE80
      replace hpl45 := hpl45.ext hE80
      replace hT79 := own_ext hT79 hE80
      replace hsz := Nat.le_trans hsz hE80.size
      refine m_q rfl rfl (fun w' hC' => q_assign (v := .slice _ _ _) rfl rfl) ?_
      refine m_nil ?_
      refine r_seq (r_seq (r_region' ?_))
      refine l_q (q_assign (v := .int _ _) rfl rfl) ?_
      refine l_nil (r_block ?_)
      refine r_rounds (α := Nat) (fun i e wl => Knows e [(5, ptr b1 0), (20, .slice la43 (((polishM fl G).2).length) lc43), (24, .slice a80_0 ((dimsT ((polishM fl G).2) T G.length).length) c80_0), (25, vint (i : Int))] ∧ (i ≤ G.length) ∧ (Blk wl b1 [vint fl, .slice ga G.length gc]) ∧ (TyAt wl b1 51) ∧ (wl.ownsRow w.heap.size 3 1 (.slice a6_0 ((bitsL m).length) c6_0) ((bitsL m).length) ((bitsL m).map vint)) ∧ (wl.ownsRow w.heap.size 3 1 (.slice a9_0 ((bitsL (m ||| q)).length) c9_0) ((bitsL (m ||| q)).length) ((bitsL (m ||| q)).map vint)) ∧ (wl.ownsRow w.heap.size 3 1 (.slice a12_0 (((bitsL m)).length) c12_0) (((bitsL m)).length) (((bitsL m)).map vint)) ∧ (wl.ownsRow w.heap.size 3 1 (.slice a15_0 (((bitsL (m ||| q))).length) c15_0) (((bitsL (m ||| q))).length) (((bitsL (m ||| q))).map vint)) ∧ (Blk wl b38 [vint (max 0 (fl - (le % 40))), .slice ga G.length gc]) ∧ (TyAt wl b38 51) ∧ (Row wl ga42 G.length gc42 2 (G.flatMap RG.enc)) ∧ (Row wl la43 (((polishM fl G).2).length) lc43 1 (((polishM fl G).2).map vint)) ∧ (Row wl ga44 G.length gc44 2 (G.flatMap RG.enc)) ∧ (Row wl la45 (((polishM (max 0 (fl - (le % 40))) G).2).length) lc45 1 (((polishM (max 0 (fl - (le % 40))) G).2).map vint)) ∧ (wl.ownsRow w.heap.size 3 1 (.slice ta ((T).length) tc) ((T).length) ((T).map vint)) ∧ (wl.ownsRow w.heap.size 3 1 (.slice a80_0 ((dimsT ((polishM fl G).2) T G.length).length) c80_0) ((dimsT ((polishM fl G).2) T G.length).length) ((dimsT ((polishM fl G).2) T G.length).map vint)) ∧ (w.heap.size ≤ wl.heap.size) ∧ (Below w.heap.size w wl)) (fun i => G.length - i) 0 ?_ ?_
      ·
       exact ⟨⟨rfl, rfl, rfl, rfl, trivial⟩, (Nat.zero_le _), hb1, hty_b1, ho6_0, ho9_0, ho12_0, ho15_0, hb38, hty_b38, hmr42, hpl43, hmr44, hpl45, hT79, ho80_0, hsz, hB⟩
      ·
       rintro i el81 wl81 ⟨hkn, hki, hb1, hty_b1, ho6_0, ho9_0, ho12_0, ho15_0, hb38, hty_b38, hmr42, hpl43, hmr44, hpl45, hT79, ho80_0, hsz, hB⟩ ih81
       obtain ⟨e81, rfl⟩ := knows_env hkn
       refine r_seq (r_seq (r_region' ?_))
       refine l_q (q_move (v := .int _ _) rfl rfl) ?_
       refine l_q (q_move (v := .slice _ _ _) rfl rfl) ?_
       refine l_q (q_len rfl Tryz.underlying22 rfl rfl) ?_
       refine l_q (q_lss rfl rfl rfl) ?_
       refine l_nil ?_
       refine r_cond rfl (fun hc82 => ?_) (fun hc82 => ?_)
       ·
        replace hc82 := dt hc82
        have hiD : i < G.length := by have h := hc82; rw [dimsT_len] at h; omega
        refine r_skip (r_seq (r_block (r_seq ?_)))
        refine r_draw ext_refl' ext_trans' [0, 1, 2, 3, 4, 5, 6] [] 20 (by kernel_rfl) (by kernel_rfl) ?_
        intro w83 _ hE83
        replace hB := below_ext hB hE83 hsz
        replace hb1 := hb1.ext hE83
        replace hty_b1 := hty_b1.ext hE83
        replace ho6_0 := own_ext ho6_0 hE83
        replace ho9_0 := own_ext ho9_0 hE83
        replace ho12_0 := own_ext ho12_0 hE83
        replace ho15_0 := own_ext ho15_0 hE83
        replace hb38 := hb38.ext hE83
        replace hty_b38 := hty_b38.ext hE83
        replace hmr42 := hmr42.ext hE83
        replace hpl43 := hpl43.ext hE83
        replace hmr44 := hmr44.ext hE83
        replace hpl45 := hpl45.ext hE83
        replace hT79 := own_ext hT79 hE83
        replace ho80_0 := own_ext ho80_0 hE83
        replace hsz := Nat.le_trans hsz hE83.size
        refine m_q rfl rfl (fun w' hC' => q_move (v := .slice _ _ _) rfl rfl) ?_
        refine m_q rfl rfl (fun w' hC' => q_move (v := .int _ _) rfl rfl) ?_
        obtain ⟨b84, o84, ha84, hh84⟩ := (Row.of_owns ho80_0).at1 i ((dimsT ((polishM fl G).2) T G.length).getD i 0) (getD_some (by omega))
        refine m_q rfl rfl (fun w' hC' => q_indexAddr1 Tryz.underlying22 Tryz.sizeOf3 rfl ha84 rfl (by omega) rfl) ?_
        refine m_q rfl rfl (fun w' hC' => q_load Tryz.isAgg3 rfl ((hh84.ext hC')) rfl) ?_
        refine m_q rfl rfl (fun w' hC' => q_fieldAddr (o' := 0) rfl fld51_0 rfl) ?_
        refine m_q rfl rfl (fun w' hC' => q_load Tryz.isAgg3 rfl (((hb1.has (o := 0) rfl).ext hC')) rfl) ?_
        refine m_q rfl rfl (fun w' hC' => q_lss rfl rfl rfl) ?_
        refine m_nil ?_
        refine r_forget [(5, .pointer _), (20, .slice _ _ _), (24, .slice _ _ _), (25, .int _ _), (218, .bool _)] ⟨rfl, rfl, rfl, rfl, rfl, trivial⟩ (fun e85 => ?_)
        have hk86 : (decide (((dimsT ((polishM fl G).2) T G.length).getD i 0) < fl)) = false := decide_eq_false (by have := tru_bright hrg hTr hp2 hiD; omega)
        refine r_cond_f ((congrArg Value.bool hk86 : Value.bool _ = _)) ?_
        refine r_skip (r_inBlock (r_region' ?_))
        refine l_q (q_move (v := .int _ _) rfl rfl) ?_
        refine l_q (q_add rfl rfl (by omega) rfl) ?_
        refine l_q (q_assign (v := .int _ _) rfl rfl) ?_
        refine l_nil ?_
        exact ih81 (i + 1) _ _ ⟨⟨rfl, rfl, rfl, by first | rfl | exact vint_eq (by omega), trivial⟩, (by omega), hb1, hty_b1, ho6_0, ho9_0, ho12_0, ho15_0, hb38, hty_b38, hmr42, hpl43, hmr44, hpl45, hT79, ho80_0, hsz, hB⟩ (by first | omega | (dsimp only; omega))
       ·
        replace hc82 := dlt hc82
        refine r_exit rfl ?_
        refine r_seq (r_region' ?_)
        refine l_q (q_load_agg (n := 2) Tryz.isAgg51 Tryz.sizeOf51 rfl ((hb1.cells' (cs' := [_, _]) 0 2 rfl)) rfl rfl) ?_
        refine l_q (q_move (v := .slice _ _ _) rfl rfl) ?_
        refine l_o (o_call Tryz.call50 rfl (stays10_ret fl ga gc G _ _ ((polishM fl G).2) _ (hG.below hB) hGn hpl43 (Nat.le_trans (poll_len hm) (by decide)) hrg) rfl ?_)
        rintro _ w87 ⟨rfl, hE87⟩
        replace hB := below_ext hB hE87 hsz
        replace hsz := Nat.le_trans hsz hE87.size
        refine l_q (q_move (v := .bool _) rfl rfl) ?_
        have hk88 : (staysB fl G ((polishM fl G).2)) = true := hp2
        refine l_part 222 rfl (fun _ => ?_) (fun hx => absurd (hk88.symm.trans hx) (by decide))
        refine l_o (o_call Tryz.call17 rfl (awake_ret _) rfl ?_)
        rintro _ w89 ⟨rfl, hE89⟩
        replace hB := below_ext hB hE89 hsz
        replace hsz := Nat.le_trans hsz hE89.size
        refine l_q (q_pick_t (v := .bool _) rfl rfl rfl) ?_
        refine l_q (q_assign (v := .bool _) rfl rfl) ?_
        refine l_nil ?_
        refine r_forget [(10, .bool _)] ⟨rfl, trivial⟩ (fun e90 => ?_)
        refine r_ret_ (vs := [.bool _]) rfl Tryz.func10 rfl (.nil _) ⟨rfl, trivial⟩ ?_
        exact ⟨rfl, Ext.of_below hB⟩
end Go.Proofs.YtgdanglidienmaaGreat
