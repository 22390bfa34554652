/- Contracts. -/
import Derived.Test.YtekkdhpgcilpdaaGreatM26
set_option linter.unusedVariables false
set_option linter.unusedSimpArgs false
namespace Go.Proofs.YtekkdhpgcilpdaaGreat
open Go Go.RowKit Go.Gv Go.Fl


set_option maxHeartbeats 1000000 in
theorem maskTruth_ret (ka : Option Addr) (kc : Nat) (co : List Sg) (er : Int) (sa : Option Addr) (sc : Nat) (se : List Int) (ja : Option Addr) (jc : Nat) (sl : List SN) (ra : Option Addr) (rc : Nat) (rl : List RC) (wa : Option Addr) (wc : Nat) (ws : List Int) (mm : Int) (w : World) (hlg : LgAt w ka kc co sa sc se ja jc sl ra rc rl) (hbg : LgBig co er se sl rl) (hw : Row w wa ws.length wc 1 (ws.map (Value.int .u16))) (hwn : ws.length ≤ 2097152) (hwr : ∀ x ∈ ws, 0 ≤ x ∧ x ≤ 65535) (hmm : 0 ≤ mm ∧ mm ≤ 255) : Ret Tryz.prog 15 [.agg ⟨[.slice ka co.length kc, vint er, .slice sa se.length sc, .slice ja sl.length jc, .slice ra rl.length rc]⟩, .slice wa ws.length wc, .int .u8 mm] w (fun v w' => v = .bool true ∧ Ext w w') := by
 obtain ⟨⟨hcn, hcl⟩, hen, hsn, ⟨hjn, hjl⟩, hrn, hrl⟩ := id hbg
 have hB := Below.refl w.heap.size w
 have hsz : w.heap.size ≤ w.heap.size := Nat.le_refl _
 refine ret_of_runs (args := [_, _, _]) Tryz.func15 rfl (Nat.le_of_ble_eq_true rfl) (by kernel_rfl) (r_seq (r_region' (l_o (o_boxt rfl rfl rfl ?_))))
 intro b1 w1 hzl1 hzr1 _ hb1 hty_b1 hE1
 have hbs_b1 : w.heap.size ≤ b1 := Nat.le_trans hsz hzl1
 replace hB := below_ext hB hE1 hsz
 replace hsz := Nat.le_trans hsz hE1.size
 refine l_q (qab rfl rfl) (l_nil (r_seq (r_seq (r_region' (l_q (q_load_agg (n := 5) Tryz.isAgg29 Tryz.sizeOf29 rfl ((hb1.cells' (cs' := [_, _, _, _, _]) 0 5 rfl)) rfl rfl) (l_o (o_call Tryz.call34 rfl (ready6_ret ka kc co er sa sc se ja jc sl ra rc rl _ (hlg.below hB) hbg) rfl ?_)))))))
 rintro _ w2 ⟨bb2, rfl, hrdy, hE2⟩
 replace hB := below_ext hB hE2 hsz
 replace hb1 := hb1.ext hE2
 replace hty_b1 := hty_b1.ext hE2
 replace hsz := Nat.le_trans hsz hE2.size
 refine l_q (q_not rfl rfl) (l_nil (r_cond rfl (fun hc3 => ?_) (fun hc3 => ?_)))
 ·
  replace hc3 := nt hc3
  refine r_seq (r_region' (l_o (o_call Tryz.call18 rfl (awake6_ret _) rfl ?_)))
  rintro _ w4 ⟨rfl, hE4⟩
  replace hB := below_ext hB hE4 hsz
  replace hb1 := hb1.ext hE4
  replace hty_b1 := hty_b1.ext hE4
  replace hsz := Nat.le_trans hsz hE4.size
  refine l_q (qab rfl rfl) (l_nil (r_ret_ (vs := [.bool _]) rfl Tryz.func15 rfl (.nil _) ⟨rfl, trivial⟩ ?_))
  exact ⟨rfl, Ext.of_below hB⟩
 ·
  replace hc3 := nf hc3
  have hok := hrdy (by simpa using hc3)
  refine r_skip (r_seq (r_region' (l_q (q_load_agg (n := 5) Tryz.isAgg29 Tryz.sizeOf29 rfl ((hb1.cells' (cs' := [_, _, _, _, _]) 0 5 rfl)) rfl rfl) (l_q (qms rfl rfl) (l_q (qmi rfl rfl) (l_q (q_toInt Tryz.underlying5 Tryz.underlying3 rfl (by omega) rfl) (l_q (q_rem rfl rfl (by omega) rfl) (l_o (o_call Tryz.call50 rfl (happened_ret ka kc co er sa sc se ja jc sl ra rc rl wa wc ws (mm % 7) _ (hlg.below hB) hbg (hw.below hB) hwn hwr hok (by omega)) rfl ?_)))))))))
  rintro _ w5 ⟨hra, hrc, N, hya, hyc, Y, rfl, hrN, hrY, hH, hNm, hE5⟩
  replace hrN := own_mono hrN (show w.heap.size ≤ _ by omega)
  replace hrY := own_mono hrY (show w.heap.size ≤ _ by omega)
  replace hB := below_ext hB hE5 hsz
  replace hb1 := hb1.ext hE5
  replace hty_b1 := hty_b1.ext hE5
  replace hsz := Nat.le_trans hsz hE5.size
  have hN6 : N.length ≤ 6 := by omega
  obtain ⟨hoX, hYa, hYl, hvW, haW, hlW, hbm⟩ := hap_all hok hH hN6
  have hbl : (bestM (lg co er se sl N)).length = N.length := asg_len hbm
  have haL : (assignM (lg co er se sl N)).1.length ≤ 2097152 := by rw [haW]; show (bestM (lg co er se sl N)).length ≤ _; omega
  have haF : fals (assignM (lg co er se sl N)).1 = fals (bestM (lg co er se sl N)) := by rw [haW]
  obtain ⟨hmin, hlex⟩ := best_min hoX hYa
  have hpY : provM (lg co er se sl N) Y = true := by unfold provM; exact decide_eq_true ⟨hoX, hYa⟩
  refine l_q (q_move (v := .tuple _) rfl rfl) (l_q (q_extract (vs := [_, _]) (v := .agg _) rfl rfl rfl) (l_q (q_extract (vs := [_, _]) (v := .slice _ _ _) rfl rfl rfl) (l_o (o_alloct Tryz.zeroValue29 rfl rfl ?_))))
  intro b6 w6 hzl6 hzr6 _ hb6 hty_b6 hE6
  have hne_b1_b6 : b1 ≠ b6 := by have := hb1.lt; omega
  have hbs_b6 : w.heap.size ≤ b6 := Nat.le_trans hsz hzl6
  replace hB := below_ext hB hE6 hsz
  replace hb1 := hb1.ext hE6
  replace hty_b1 := hty_b1.ext hE6
  replace hrN := own_ext hrN hE6
  replace hrY := own_ext hrY hE6
  replace hsz := Nat.le_trans hsz hE6.size
  refine l_o (o_storet (vs := [.slice ka co.length kc, vint er, .slice sa se.length sc, .slice ja sl.length jc, .slice hra N.length hrc]) (cs' := [.slice ka co.length kc, vint er, .slice sa se.length sc, .slice ja sl.length jc, .slice hra N.length hrc]) Tryz.sizeOf29 rfl rfl rfl rfl hb6 (Nat.le_of_ble_eq_true rfl) rfl rfl ?_)
  intro w7 hz7 hb6 hT7 hG7
  replace hB := below_upd hB hG7 hsz (by omega)
  replace hsz : w.heap.size ≤ w7.heap.size := by rw [hz7]; exact hsz
  replace hb1 := hb1.upd hG7 (by omega)
  replace hty_b1 := hty_b1.upd hG7 (by omega)
  replace hrN := own_ty_upd hrN hty_b6 hG7 (by decide)
  replace hrY := own_ty_upd hrY hty_b6 hG7 (by decide)
  replace hty_b6 := hT7 _ hty_b6
  refine l_q (qas rfl rfl) (l_nil (r_forget [(7, .pointer _), (8, .slice _ _ _)] ⟨rfl, rfl, trivial⟩ (fun e8 => (r_seq (r_region' (l_q (q_load_agg (n := 5) Tryz.isAgg29 Tryz.sizeOf29 rfl ((hb6.cells' (cs' := [_, _, _, _, _]) 0 5 rfl)) rfl rfl) (l_o (o_call Tryz.call20 rfl (log6_ret ka kc co er sa sc se ja jc sl hra hrc N _ ⟨(hlg.rco.below hB), (hlg.rse.below hB), (hlg.rsl.below hB), (hlg.rslr.below hB), (Row.of_owns hrN)⟩ (hap_big hbg hH hN6)) rfl ?_))))))))
  rintro _ w9 ⟨qka9, qkc9, qsa9, qsc9, qja9, qjc9, qsl9, qra9, qrc9, rfl, hlg9, hm9, hE9⟩
  replace hB := below_ext hB hE9 hsz
  replace hb1 := hb1.ext hE9
  replace hty_b1 := hty_b1.ext hE9
  replace hrN := own_ext hrN hE9
  replace hrY := own_ext hrY hE9
  replace hb6 := hb6.ext hE9
  replace hty_b6 := hty_b6.ext hE9
  replace hsz := Nat.le_trans hsz hE9.size
  have hv10 := verdicts6_ret qka9 qkc9 co er qsa9 qsc9 se qja9 qjc9 qsl9 qra9 qrc9 N  w9 hlg9 (big_same hm9 (hap_big hbg hH hN6)) 
  rw [lg_same hm9] at hv10
  refine l_o (o_call Tryz.call35 rfl (hv10) rfl ?_)
  rintro _ w11 ⟨a11_0, c11_0, rfl, hr11_0, hE11⟩
  replace hB := below_ext hB hE11 hsz
  replace hb1 := hb1.ext hE11
  replace hty_b1 := hty_b1.ext hE11
  replace hrN := own_ext hrN hE11
  replace hrY := own_ext hrY hE11
  replace hb6 := hb6.ext hE11
  replace hty_b6 := hty_b6.ext hE11
  replace hlg9 := hlg9.ext hE11
  replace hsz := Nat.le_trans hsz hE11.size
  refine l_q (q_move (v := .tuple _) rfl rfl) (l_q (q_extract (vs := [_, _]) (v := .slice _ _ _) rfl rfl rfl) (l_q (q_extract (vs := [_, _]) (v := .int _ _) rfl rfl rfl) (l_q (qas rfl rfl) (l_q (qai rfl rfl) (l_nil (r_seq (r_region' (l_q (q_load_agg (n := 5) Tryz.isAgg29 Tryz.sizeOf29 rfl ((hb6.cells' (cs' := [_, _, _, _, _]) 0 5 rfl)) rfl rfl) (l_o (o_call Tryz.call20 rfl (log6_ret ka kc co er sa sc se ja jc sl hra hrc N _ ⟨(hlg.rco.below hB), (hlg.rse.below hB), (hlg.rsl.below hB), (hlg.rslr.below hB), (Row.of_owns hrN)⟩ (hap_big hbg hH hN6)) rfl ?_))))))))))
  rintro _ w12 ⟨qka12, qkc12, qsa12, qsc12, qja12, qjc12, qsl12, qra12, qrc12, rfl, hlg12, hm12, hE12⟩
  replace hB := below_ext hB hE12 hsz
  replace hb1 := hb1.ext hE12
  replace hty_b1 := hty_b1.ext hE12
  replace hrN := own_ext hrN hE12
  replace hrY := own_ext hrY hE12
  replace hb6 := hb6.ext hE12
  replace hty_b6 := hty_b6.ext hE12
  replace hlg9 := hlg9.ext hE12
  replace hr11_0 := hr11_0.ext hE12
  replace hsz := Nat.le_trans hsz hE12.size
  have hv13 := assign6_ret qka12 qkc12 co er qsa12 qsc12 se qja12 qjc12 qsl12 qra12 qrc12 N  w12 hlg12 (big_same hm12 (hap_big hbg hH hN6)) 
  rw [lg_same hm12] at hv13
  refine l_o (o_call Tryz.call36 rfl (hv13) rfl ?_)
  rintro _ w14 ⟨a14_0, c14_0, rfl, hr14_0, hE14⟩
  replace hB := below_ext hB hE14 hsz
  replace hb1 := hb1.ext hE14
  replace hty_b1 := hty_b1.ext hE14
  replace hrN := own_ext hrN hE14
  replace hrY := own_ext hrY hE14
  replace hb6 := hb6.ext hE14
  replace hty_b6 := hty_b6.ext hE14
  replace hlg9 := hlg9.ext hE14
  replace hr11_0 := hr11_0.ext hE14
  replace hlg12 := hlg12.ext hE14
  replace hsz := Nat.le_trans hsz hE14.size
  refine l_q (q_move (v := .tuple _) rfl rfl) (l_q (q_extract (vs := [_, _]) (v := .slice _ _ _) rfl rfl rfl) (l_q (q_extract (vs := [_, _]) (v := .int _ _) rfl rfl rfl) (l_q (qas rfl rfl) (l_q (qai rfl rfl) (l_nil (r_forget [(7, .pointer _), (8, .slice _ _ _), (9, .slice _ _ _), (10, .int _ _), (11, .slice _ _ _), (12, .int _ _)] ⟨rfl, rfl, rfl, rfl, rfl, rfl, trivial⟩ (fun e15 => (r_seq (r_region' (l_q (q_load_agg (n := 5) Tryz.isAgg29 Tryz.sizeOf29 rfl ((hb6.cells' (cs' := [_, _, _, _, _]) 0 5 rfl)) rfl rfl) (l_o (o_call Tryz.call20 rfl (log6_ret ka kc co er sa sc se ja jc sl hra hrc N _ ⟨(hlg.rco.below hB), (hlg.rse.below hB), (hlg.rsl.below hB), (hlg.rslr.below hB), (Row.of_owns hrN)⟩ (hap_big hbg hH hN6)) rfl ?_))))))))))))
  rintro _ w16 ⟨qka16, qkc16, qsa16, qsc16, qja16, qjc16, qsl16, qra16, qrc16, rfl, hlg16, hm16, hE16⟩
  replace hB := below_ext hB hE16 hsz
  replace hb1 := hb1.ext hE16
  replace hty_b1 := hty_b1.ext hE16
  replace hrN := own_ext hrN hE16
  replace hrY := own_ext hrY hE16
  replace hb6 := hb6.ext hE16
  replace hty_b6 := hty_b6.ext hE16
  replace hlg9 := hlg9.ext hE16
  replace hr11_0 := hr11_0.ext hE16
  replace hlg12 := hlg12.ext hE16
  replace hr14_0 := hr14_0.ext hE16
  replace hsz := Nat.le_trans hsz hE16.size
  have hv17 := leave6_ret qka16 qkc16 co er qsa16 qsc16 se qja16 qjc16 qsl16 qra16 qrc16 N  w16 hlg16 (big_same hm16 (hap_big hbg hH hN6)) 
  rw [lg_same hm16] at hv17
  refine l_o (o_call Tryz.call32 rfl (hv17) rfl ?_)
  rintro _ w18 ⟨a18_0, c18_0, rfl, hr18_0, hE18⟩
  replace hB := below_ext hB hE18 hsz
  replace hb1 := hb1.ext hE18
  replace hty_b1 := hty_b1.ext hE18
  replace hrN := own_ext hrN hE18
  replace hrY := own_ext hrY hE18
  replace hb6 := hb6.ext hE18
  replace hty_b6 := hty_b6.ext hE18
  replace hlg9 := hlg9.ext hE18
  replace hr11_0 := hr11_0.ext hE18
  replace hlg12 := hlg12.ext hE18
  replace hr14_0 := hr14_0.ext hE18
  replace hlg16 := hlg16.ext hE18
  replace hsz := Nat.le_trans hsz hE18.size
  refine l_q (q_move (v := .tuple _) rfl rfl) (l_q (q_extract (vs := [_, _]) (v := .slice _ _ _) rfl rfl rfl) (l_q (q_extract (vs := [_, _]) (v := .int _ _) rfl rfl rfl) (l_q (qas rfl rfl) (l_q (qai rfl rfl) (l_nil (r_seq (r_seq (r_region' (l_q (qmi rfl rfl) (l_q (q_neq rfl rfl rfl) (l_q (qmb rfl rfl) ?_)))))))))))
  have hk19 : (!decide (((verdW (lg co er se sl N)).2) = 0)) = false := by rw [hvW]; rfl
  refine l_part 49 rfl (fun hx => absurd (hk19.symm.trans hx) (by decide)) (fun _ => (l_q (qmi rfl rfl) (l_q (q_neq rfl rfl rfl) (l_q (q_pick_f (v := .bool _) rfl rfl rfl) (l_q (qmb rfl rfl) ?_)))))
  have hk20 : (!decide (((assignM (lg co er se sl N)).2) = 0)) = false := by rw [haW]; rfl
  refine l_part 53 rfl (fun hx => absurd (hk20.symm.trans hx) (by decide)) (fun _ => (l_q (qmi rfl rfl) (l_q (q_neq rfl rfl rfl) (l_q (q_pick_f (v := .bool _) rfl rfl rfl) (l_q (qmb rfl rfl) ?_)))))
  have hk21 : (!decide (((leavW (lg co er se sl N)).2) = 0)) = false := by rw [hlW]; rfl
  refine l_part 57 rfl (fun hx => absurd (hk21.symm.trans hx) (by decide)) (fun _ => (l_q (qms rfl rfl) (l_q (q_len rfl Tryz.underlying25 rfl rfl) (l_q (q_neq rfl rfl rfl) (l_q (q_pick_f (v := .bool _) rfl rfl rfl) (l_q (qmb rfl rfl) ?_))))))
  have hk22 : (!decide ((((leavW (lg co er se sl N)).1).length : Int) = 0)) = false := by rw [hlW]; rfl
  refine l_part 62 rfl (fun hx => absurd (hk22.symm.trans hx) (by decide)) (fun _ => (l_q (qms rfl rfl) (l_q (q_len rfl Tryz.underlying25 rfl rfl) (l_q (qms rfl rfl) (l_q (q_len rfl Tryz.underlying25 rfl rfl) (l_q (q_neq rfl rfl rfl) (l_q (q_pick_f (v := .bool _) rfl rfl rfl) (l_q (qmb rfl rfl) ?_))))))))
  have hk23 : (!decide ((((verdW (lg co er se sl N)).1).length : Int) = ((Y).length : Int))) = false := by rw [hvW, List.length_map, List.length_range, hYl]; simp [lgR]
  refine l_part 69 rfl (fun hx => absurd (hk23.symm.trans hx) (by decide)) (fun _ => (l_q (qms rfl rfl) (l_q (q_len rfl Tryz.underlying25 rfl rfl) (l_q (qms rfl rfl) (l_q (q_len rfl Tryz.underlying25 rfl rfl) (l_q (q_neq rfl rfl rfl) (l_q (q_pick_f (v := .bool _) rfl rfl rfl) (l_q (qmb rfl rfl) ?_))))))))
  have hk24 : (!decide ((((assignM (lg co er se sl N)).1).length : Int) = ((Y).length : Int))) = false := by rw [haW, hYl]; simp [hbl]
  refine l_part 76 rfl (fun hx => absurd (hk24.symm.trans hx) (by decide)) (fun _ => (l_q (q_load_agg (n := 5) Tryz.isAgg29 Tryz.sizeOf29 rfl ((hb6.cells' (cs' := [_, _, _, _, _]) 0 5 rfl)) rfl rfl) (l_o (o_call Tryz.call20 rfl (log6_ret ka kc co er sa sc se ja jc sl hra hrc N _ ⟨(hlg.rco.below hB), (hlg.rse.below hB), (hlg.rsl.below hB), (hlg.rslr.below hB), (Row.of_owns hrN)⟩ (hap_big hbg hH hN6)) rfl ?_))))
  rintro _ w25 ⟨qka25, qkc25, qsa25, qsc25, qja25, qjc25, qsl25, qra25, qrc25, rfl, hlg25, hm25, hE25⟩
  replace hB := below_ext hB hE25 hsz
  replace hb1 := hb1.ext hE25
  replace hty_b1 := hty_b1.ext hE25
  replace hrN := own_ext hrN hE25
  replace hrY := own_ext hrY hE25
  replace hb6 := hb6.ext hE25
  replace hty_b6 := hty_b6.ext hE25
  replace hlg9 := hlg9.ext hE25
  replace hr11_0 := hr11_0.ext hE25
  replace hlg12 := hlg12.ext hE25
  replace hr14_0 := hr14_0.ext hE25
  replace hlg16 := hlg16.ext hE25
  replace hr18_0 := hr18_0.ext hE25
  replace hsz := Nat.le_trans hsz hE25.size
  refine l_q (qms rfl rfl) (l_o (o_call Tryz.call39 rfl (list6_ret _ _ Y _ (Row.of_owns hrY) (by omega)) rfl ?_))
  rintro _ w26 ⟨a26_0, c26_0, rfl, ho26_0, hE26⟩
  replace ho26_0 := own_mono ho26_0 (show w.heap.size ≤ _ by omega)
  replace hB := below_ext hB hE26 hsz
  replace hb1 := hb1.ext hE26
  replace hty_b1 := hty_b1.ext hE26
  replace hrN := own_ext hrN hE26
  replace hrY := own_ext hrY hE26
  replace hb6 := hb6.ext hE26
  replace hty_b6 := hty_b6.ext hE26
  replace hlg9 := hlg9.ext hE26
  replace hr11_0 := hr11_0.ext hE26
  replace hlg12 := hlg12.ext hE26
  replace hr14_0 := hr14_0.ext hE26
  replace hlg16 := hlg16.ext hE26
  replace hr18_0 := hr18_0.ext hE26
  replace hlg25 := hlg25.ext hE26
  replace hsz := Nat.le_trans hsz hE26.size
  have hv27 := prove6_ret qka25 qkc25 co er qsa25 qsc25 se qja25 qjc25 qsl25 qra25 qrc25 N _ _ Y w26 hlg25 (big_same hm25 (hap_big hbg hH hN6)) (Row.of_owns ho26_0) (by omega)
  rw [lg_same hm25] at hv27
  refine l_o (o_call Tryz.call45 rfl (hv27) rfl ?_)
  rintro _ w28 ⟨rfl, hE28⟩
  replace hB := below_ext hB hE28 hsz
  replace hb1 := hb1.ext hE28
  replace hty_b1 := hty_b1.ext hE28
  replace hrN := own_ext hrN hE28
  replace hrY := own_ext hrY hE28
  replace hb6 := hb6.ext hE28
  replace hty_b6 := hty_b6.ext hE28
  replace hlg9 := hlg9.ext hE28
  replace hr11_0 := hr11_0.ext hE28
  replace hlg12 := hlg12.ext hE28
  replace hr14_0 := hr14_0.ext hE28
  replace hlg16 := hlg16.ext hE28
  replace hr18_0 := hr18_0.ext hE28
  replace hlg25 := hlg25.ext hE28
  replace ho26_0 := own_ext ho26_0 hE28
  replace hsz := Nat.le_trans hsz hE28.size
  refine l_q (q_not rfl rfl) (l_q (q_pick_f (v := .bool _) rfl rfl rfl) (l_q (qmb rfl rfl) ?_))
  have hk29 : (!(provM (lg co er se sl N) Y)) = false := by rw [hpY]; rfl
  refine l_part 84 rfl (fun hx => absurd (hk29.symm.trans hx) (by decide)) (fun _ => (l_q (qms rfl rfl) (l_o (o_call Tryz.call51 rfl (falses6_ret _ _ ((assignM (lg co er se sl N)).1) _ hr14_0 (by rw [haW]; show (bestM (lg co er se sl N)).length ≤ _; omega)) rfl ?_))))
  rintro _ w30 ⟨rfl, hE30⟩
  replace hB := below_ext hB hE30 hsz
  replace hb1 := hb1.ext hE30
  replace hty_b1 := hty_b1.ext hE30
  replace hrN := own_ext hrN hE30
  replace hrY := own_ext hrY hE30
  replace hb6 := hb6.ext hE30
  replace hty_b6 := hty_b6.ext hE30
  replace hlg9 := hlg9.ext hE30
  replace hr11_0 := hr11_0.ext hE30
  replace hlg12 := hlg12.ext hE30
  replace hr14_0 := hr14_0.ext hE30
  replace hlg16 := hlg16.ext hE30
  replace hr18_0 := hr18_0.ext hE30
  replace hlg25 := hlg25.ext hE30
  replace ho26_0 := own_ext ho26_0 hE30
  replace hsz := Nat.le_trans hsz hE30.size
  refine l_q (qms rfl rfl) (l_o (o_call Tryz.call51 rfl (falses6_ret _ _ Y _ (Row.of_owns hrY) (by omega)) rfl ?_))
  rintro _ w31 ⟨rfl, hE31⟩
  replace hB := below_ext hB hE31 hsz
  replace hb1 := hb1.ext hE31
  replace hty_b1 := hty_b1.ext hE31
  replace hrN := own_ext hrN hE31
  replace hrY := own_ext hrY hE31
  replace hb6 := hb6.ext hE31
  replace hty_b6 := hty_b6.ext hE31
  replace hlg9 := hlg9.ext hE31
  replace hr11_0 := hr11_0.ext hE31
  replace hlg12 := hlg12.ext hE31
  replace hr14_0 := hr14_0.ext hE31
  replace hlg16 := hlg16.ext hE31
  replace hr18_0 := hr18_0.ext hE31
  replace hlg25 := hlg25.ext hE31
  replace ho26_0 := own_ext ho26_0 hE31
  replace hsz := Nat.le_trans hsz hE31.size
  refine l_q (q_gtr rfl rfl rfl) (l_q (q_pick_f (v := .bool _) rfl rfl rfl) (l_nil (r_forget [(8, .slice _ _ _), (9, .slice _ _ _), (90, .bool _)] ⟨rfl, rfl, rfl, trivial⟩ (fun e32 => ?_))))
  have hk33 : (decide ((fals Y) < (fals ((assignM (lg co er se sl N)).1)))) = false := by exact decide_eq_false (by omega)
  refine r_cond_f ((congrArg Value.bool hk33 : Value.bool _ = _)) (r_skip (r_seq (r_seq (r_region' (l_q (qai rfl rfl) (l_nil (r_block ?_)))))))
  refine r_rounds (α := Nat) (fun c e wl => Knows e [(8, .slice hya ((Y).length) hyc), (9, .slice a11_0 (((verdW (lg co er se sl N)).1).length) c11_0), (15, vint (c : Int))] ∧ (c ≤ Y.length) ∧ (Blk wl b1 [.slice ka co.length kc, vint er, .slice sa se.length sc, .slice ja sl.length jc, .slice ra rl.length rc]) ∧ (TyAt wl b1 29) ∧ (wl.ownsRow w.heap.size 61 3 (.slice hra N.length hrc) N.length (N.flatMap RC.enc)) ∧ (wl.ownsRow w.heap.size 3 1 (.slice hya ((Y).length) hyc) ((Y).length) ((Y).map vint)) ∧ (Blk wl b6 [.slice ka co.length kc, vint er, .slice sa se.length sc, .slice ja sl.length jc, .slice hra N.length hrc]) ∧ (TyAt wl b6 29) ∧ (LgAt wl qka9 qkc9 co qsa9 qsc9 se qja9 qjc9 qsl9 qra9 qrc9 N) ∧ (Row wl a11_0 (((verdW (lg co er se sl N)).1).length) c11_0 1 (((verdW (lg co er se sl N)).1).map vint)) ∧ (LgAt wl qka12 qkc12 co qsa12 qsc12 se qja12 qjc12 qsl12 qra12 qrc12 N) ∧ (Row wl a14_0 (((assignM (lg co er se sl N)).1).length) c14_0 1 (((assignM (lg co er se sl N)).1).map vint)) ∧ (LgAt wl qka16 qkc16 co qsa16 qsc16 se qja16 qjc16 qsl16 qra16 qrc16 N) ∧ (Row wl a18_0 (((leavW (lg co er se sl N)).1).length) c18_0 1 (((leavW (lg co er se sl N)).1).map vint)) ∧ (LgAt wl qka25 qkc25 co qsa25 qsc25 se qja25 qjc25 qsl25 qra25 qrc25 N) ∧ (wl.ownsRow w.heap.size 3 1 (.slice a26_0 ((Y).length) c26_0) ((Y).length) ((Y).map vint)) ∧ (w.heap.size ≤ wl.heap.size) ∧ (Below w.heap.size w wl)) (fun c => Y.length - c) 0 ?_ ?_
  ·
   exact ⟨⟨rfl, rfl, rfl, trivial⟩, (Nat.zero_le _), hb1, hty_b1, hrN, hrY, hb6, hty_b6, hlg9, hr11_0, hlg12, hr14_0, hlg16, hr18_0, hlg25, ho26_0, hsz, hB⟩
  ·
   rintro c el34 wl34 ⟨hkn, hkc, hb1, hty_b1, hrN, hrY, hb6, hty_b6, hlg9, hr11_0, hlg12, hr14_0, hlg16, hr18_0, hlg25, ho26_0, hsz, hB⟩ ih34
   obtain ⟨e34, rfl⟩ := knows_env hkn
   refine r_seq (r_seq (r_region' (l_q (qmi rfl rfl) (l_q (qms rfl rfl) (l_q (q_len rfl Tryz.underlying25 rfl rfl) (l_q (q_lss rfl rfl rfl) (l_nil (r_cond rfl (fun hc35 => ?_) (fun hc35 => ?_)))))))))
   ·
    replace hc35 := dt hc35
    refine r_skip (r_seq (r_block (r_seq ?_)))
    have hcN : c < N.length := by omega
    have hvr := verd_getD hvW (r := c) hcN
    have hvl : (verdW (lg co er se sl N)).1.length = N.length := by rw [hvW, List.length_map, List.length_range]
    refine r_region' (l_q (qms rfl rfl) (l_q (qmi rfl rfl) ?_))
    obtain ⟨b36, o36, ha36, hh36⟩ := (Row.of_owns hrY).at1 c ((Y).getD c 0) (getD_some (by omega))
    refine l_q (q_indexAddr1 Tryz.underlying25 Tryz.sizeOf3 rfl ha36 rfl (by omega) rfl) (l_q (q_load Tryz.isAgg3 rfl (hh36) rfl) (l_q (q_geq rfl rfl rfl) (l_q (qmb rfl rfl) (l_part 102 rfl (fun hc37 => ?_) (fun hc37 => ?_)))))
    ·
     replace hc37 := dt hc37
     have h102 : 0 ≤ Y.getD c 0 := hc37
     have hn2 := verd_n2 (asg_own hYa hcN h102).2
     refine l_q (qms rfl rfl) (l_q (qmi rfl rfl) ?_)
     obtain ⟨b38, o38, ha38, hh38⟩ := hr11_0.at1 c (((verdW (lg co er se sl N)).1).getD c 0) (getD_some (by omega))
     refine l_q (q_indexAddr1 Tryz.underlying25 Tryz.sizeOf3 rfl ha38 rfl (by omega) rfl) (l_q (q_load Tryz.isAgg3 rfl (hh38) rfl) (l_q (q_eql rfl rfl rfl) (l_q (q_pick_t (v := .bool _) rfl rfl rfl) (l_q (qmb rfl rfl) ?_))))
     have hk39 : (decide ((((verdW (lg co er se sl N)).1).getD c 0) = 2)) = false := by rw [hvr, decide_eq_false hn2]
     refine l_part 109 rfl (fun hx => absurd (hk39.symm.trans hx) (by decide)) (fun _ => (l_q (qms rfl rfl) (l_q (qmi rfl rfl) ?_)))
     obtain ⟨b40, o40, ha40, hh40⟩ := (Row.of_owns hrY).at1 c ((Y).getD c 0) (getD_some (by omega))
     refine l_q (q_indexAddr1 Tryz.underlying25 Tryz.sizeOf3 rfl ha40 rfl (by omega) rfl) (l_q (q_load Tryz.isAgg3 rfl (hh40) rfl) (l_q (q_lss rfl rfl rfl) (l_q (qmb rfl rfl) ?_)))
     have hk41 : (decide (((Y).getD c 0) < 0)) = false := decide_eq_false (by omega)
     refine l_part 115 rfl (fun hx => absurd (hk41.symm.trans hx) (by decide)) (fun _ => (l_q (q_skip rfl) (l_q (q_skip rfl) (l_q (q_skip rfl) (l_q (q_skip rfl) (l_q (q_skip rfl) (l_q (q_pick_f (v := .bool _) rfl rfl rfl) (l_q (q_pick_f (v := .bool _) rfl rfl rfl) (l_nil (r_forget [(8, .slice _ _ _), (9, .slice _ _ _), (15, .int _ _), (122, .bool _)] ⟨rfl, rfl, rfl, rfl, trivial⟩ (fun e42 => (r_cond_f rfl (r_skip (r_inBlock (r_region' (l_q (qmi rfl rfl) (l_q (q_add rfl rfl (by omega) rfl) (l_q (qai rfl rfl) (l_nil ?_)))))))))))))))))))
     exact ih34 (c + 1) _ _ ⟨⟨rfl, rfl, (vint_eq (by omega)), trivial⟩, (by omega), hb1, hty_b1, hrN, hrY, hb6, hty_b6, hlg9, hr11_0, hlg12, hr14_0, hlg16, hr18_0, hlg25, ho26_0, hsz, hB⟩ (by first | omega | (dsimp only; omega))
    ·
     replace hc37 := dle hc37
     have h102 : Y.getD c 0 < 0 := by have := hc37; omega
     have hn1 := verd_n1 (asg_fal hYa hcN h102).2
     refine l_q (q_skip rfl) (l_q (q_skip rfl) (l_q (q_skip rfl) (l_q (q_skip rfl) (l_q (q_skip rfl) (l_q (q_pick_f (v := .bool _) rfl rfl rfl) (l_q (qmb rfl rfl) (l_q (qms rfl rfl) (l_q (qmi rfl rfl) ?_))))))))
     obtain ⟨b43, o43, ha43, hh43⟩ := (Row.of_owns hrY).at1 c ((Y).getD c 0) (getD_some (by omega))
     refine l_q (q_indexAddr1 Tryz.underlying25 Tryz.sizeOf3 rfl ha43 rfl (by omega) rfl) (l_q (q_load Tryz.isAgg3 rfl (hh43) rfl) (l_q (q_lss rfl rfl rfl) (l_q (qmb rfl rfl) ?_)))
     have hk44 : (decide (((Y).getD c 0) < 0)) = true := decide_eq_true h102
     refine l_part 115 rfl (fun _ => ?_) (fun hx => absurd (hk44.symm.trans hx) (by decide))
     refine l_q (qms rfl rfl) (l_q (qmi rfl rfl) ?_)
     obtain ⟨b45, o45, ha45, hh45⟩ := hr11_0.at1 c (((verdW (lg co er se sl N)).1).getD c 0) (getD_some (by omega))
     refine l_q (q_indexAddr1 Tryz.underlying25 Tryz.sizeOf3 rfl ha45 rfl (by omega) rfl) (l_q (q_load Tryz.isAgg3 rfl (hh45) rfl) (l_q (q_eql rfl rfl rfl) (l_q (q_pick_t (v := .bool _) rfl rfl rfl) (l_q (q_pick_f (v := .bool _) rfl rfl rfl) (l_nil (r_forget [(8, .slice _ _ _), (9, .slice _ _ _), (15, .int _ _), (122, .bool _)] ⟨rfl, rfl, rfl, rfl, trivial⟩ (fun e46 => ?_)))))))
     have hk47 : (decide ((((verdW (lg co er se sl N)).1).getD c 0) = 1)) = false := by rw [hvr, decide_eq_false hn1]
     refine r_cond_f ((congrArg Value.bool hk47 : Value.bool _ = _)) (r_skip (r_inBlock (r_region' (l_q (qmi rfl rfl) (l_q (q_add rfl rfl (by omega) rfl) (l_q (qai rfl rfl) (l_nil ?_)))))))
     exact ih34 (c + 1) _ _ ⟨⟨rfl, rfl, (vint_eq (by omega)), trivial⟩, (by omega), hb1, hty_b1, hrN, hrY, hb6, hty_b6, hlg9, hr11_0, hlg12, hr14_0, hlg16, hr18_0, hlg25, ho26_0, hsz, hB⟩ (by first | omega | (dsimp only; omega))
   ·
    replace hc35 := dlt hc35
    refine r_exit rfl (r_seq (r_region' (l_o (o_call Tryz.call18 rfl (awake6_ret _) rfl ?_))))
    rintro _ w48 ⟨rfl, hE48⟩
    replace hB := below_ext hB hE48 hsz
    replace hsz := Nat.le_trans hsz hE48.size
    refine l_q (qab rfl rfl) (l_nil (r_ret_ (vs := [.bool _]) rfl Tryz.func15 rfl (.nil _) ⟨rfl, trivial⟩ ?_))
    exact ⟨rfl, Ext.of_below hB⟩
end Go.Proofs.YtekkdhpgcilpdaaGreat
