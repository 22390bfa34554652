/- Contracts. -/
import Derived.Test.YtekkdhpgcilpdaaGreatM26
set_option linter.unusedVariables false
set_option linter.unusedSimpArgs false
namespace Go.Proofs.YtekkdhpgcilpdaaGreat
open Go Go.RowKit Go.Gv Go.Fl


set_option maxHeartbeats 1000000 in
theorem maskFewest_ret (ka : Option Addr) (kc : Nat) (co : List Sg) (er : Int) (sa : Option Addr) (sc : Nat) (se : List Int) (ja : Option Addr) (jc : Nat) (sl : List SN) (ra : Option Addr) (rc : Nat) (rl : List RC) (wa : Option Addr) (wc : Nat) (ws : List Int) (mm : Int) (xa : Option Addr) (xc : Nat) (xs : List Int) (w : World) (hlg : LgAt w ka kc co sa sc se ja jc sl ra rc rl) (hbg : LgBig co er se sl rl) (hw : Row w wa ws.length wc 1 (ws.map (Value.int .u16))) (hwn : ws.length ≤ 2097152) (hwr : ∀ x ∈ ws, 0 ≤ x ∧ x ≤ 65535) (hmm : 0 ≤ mm ∧ mm ≤ 255) (hx : Row w xa xs.length xc 1 (xs.map vint)) (hxn : xs.length ≤ 2097152) : Ret Tryz.prog 16 [.agg ⟨[.slice ka co.length kc, vint er, .slice sa se.length sc, .slice ja sl.length jc, .slice ra rl.length rc]⟩, .slice wa ws.length wc, .int .u8 mm, .slice xa xs.length xc] w (fun v w' => v = .bool true ∧ Ext w w') := by
 obtain ⟨⟨hcn, hcl⟩, hen, hsn, ⟨hjn, hjl⟩, hrn, hrl⟩ := id hbg
 have hB := Below.refl w.heap.size w
 have hsz : w.heap.size ≤ w.heap.size := Nat.le_refl _
 refine ret_of_runs (args := [_, _, _, _]) Tryz.func16 rfl (Nat.le_of_ble_eq_true rfl) (by kernel_rfl) (r_seq (r_region' (l_o (o_boxt rfl rfl rfl ?_))))
 intro b1 w1 hzl1 hzr1 _ hb1 hty_b1 hE1
 have hbs_b1 : w.heap.size ≤ b1 := Nat.le_trans hsz hzl1
 replace hB := below_ext hB hE1 hsz
 replace hsz := Nat.le_trans hsz hE1.size
 refine l_q (qab rfl rfl) (l_nil (r_seq (r_seq (r_region' (l_q (q_load_agg (n := 5) Tryz.isAgg29 Tryz.sizeOf29 rfl ((hb1.cells' (cs' := [_, _, _, _, _]) 0 5 rfl)) rfl rfl) (l_o (o_call Tryz.call34 rfl (ready6_ret ka kc co er sa sc se ja jc sl ra rc rl _ (hlg.below hB) hbg) rfl ?_)))))))
 rintro _ w2 ⟨bb2, rfl, hrdy, hE2⟩
 replace hB := below_ext hB hE2 hsz
 replace hb1 := hb1.ext hE2
 replace hsz := Nat.le_trans hsz hE2.size
 refine l_q (q_not rfl rfl) (l_q (qmb rfl rfl) (l_part 19 rfl (fun hc3 => ?_) (fun hc3 => ?_)))
 ·
  replace hc3 := nt hc3
  refine l_q (q_skip rfl) (l_q (q_skip rfl) (l_q (q_skip rfl) (l_q (q_pick_t (v := .bool _) rfl rfl rfl) (l_nil (r_cond_t rfl (r_seq (r_region' (l_o (o_call Tryz.call18 rfl (awake6_ret _) rfl ?_)))))))))
  rintro _ w4 ⟨rfl, hE4⟩
  replace hB := below_ext hB hE4 hsz
  replace hb1 := hb1.ext hE4
  replace hsz := Nat.le_trans hsz hE4.size
  refine l_q (qab rfl rfl) (l_nil (r_forget [(8, .bool _)] ⟨rfl, trivial⟩ (fun e5 => (r_ret_ (vs := [.bool _]) rfl Tryz.func16 rfl (.nil _) ⟨rfl, trivial⟩ ?_))))
  exact ⟨rfl, Ext.of_below hB⟩
 ·
  replace hc3 := nf hc3
  have hok := hrdy (by simpa using hc3)
  refine l_q (qms rfl rfl) (l_q (q_len rfl Tryz.underlying25 rfl rfl) (l_q (q_gtr rfl rfl rfl) (l_q (q_pick_f (v := .bool _) rfl rfl rfl) (l_nil (r_cond rfl (fun hc6 => ?_) (fun hc6 => ?_))))))
  ·
   replace hc6 := dt hc6
   refine r_seq (r_region' (l_o (o_call Tryz.call18 rfl (awake6_ret _) rfl ?_)))
   rintro _ w7 ⟨rfl, hE7⟩
   replace hB := below_ext hB hE7 hsz
   replace hb1 := hb1.ext hE7
   replace hsz := Nat.le_trans hsz hE7.size
   refine l_q (qab rfl rfl) (l_nil (r_forget [(8, .bool _)] ⟨rfl, trivial⟩ (fun e8 => (r_ret_ (vs := [.bool _]) rfl Tryz.func16 rfl (.nil _) ⟨rfl, trivial⟩ ?_))))
   exact ⟨rfl, Ext.of_below hB⟩
  ·
   replace hc6 := dlt hc6
   have hx9 : xs.length ≤ 9 := by omega
   refine r_skip (r_seq (r_region' (l_q (q_load_agg (n := 5) Tryz.isAgg29 Tryz.sizeOf29 rfl ((hb1.cells' (cs' := [_, _, _, _, _]) 0 5 rfl)) rfl rfl) (l_q (qms rfl rfl) (l_q (qmi rfl rfl) (l_q (q_toInt Tryz.underlying5 Tryz.underlying3 rfl (by omega) rfl) (l_q (q_rem rfl rfl (by omega) rfl) (l_o (o_call Tryz.call50 rfl (happened_ret ka kc co er sa sc se ja jc sl ra rc rl wa wc ws (mm % 7) _ (hlg.below hB) hbg (hw.below hB) hwn hwr hok (by omega)) rfl ?_)))))))))
   rintro _ w9 ⟨hra, hrc, N, hya, hyc, Y, rfl, hrN, hrY, hH, hNm, hE9⟩
   replace hrN := own_mono hrN (show w.heap.size ≤ _ by omega)
   replace hrY := own_mono hrY (show w.heap.size ≤ _ by omega)
   replace hB := below_ext hB hE9 hsz
   replace hb1 := hb1.ext hE9
   replace hsz := Nat.le_trans hsz hE9.size
   have hN6 : N.length ≤ 6 := by omega
   obtain ⟨hoX, hYa, hYl, hvW, haW, hlW, hbm⟩ := hap_all hok hH hN6
   have hbl : (bestM (lg co er se sl N)).length = N.length := asg_len hbm
   have haL : (assignM (lg co er se sl N)).1.length ≤ 2097152 := by rw [haW]; show (bestM (lg co er se sl N)).length ≤ _; omega
   have haF : fals (assignM (lg co er se sl N)).1 = fals (bestM (lg co er se sl N)) := by rw [haW]
   obtain ⟨hmin, hlex⟩ := best_min hoX hYa
   have hpY : provM (lg co er se sl N) Y = true := by unfold provM; exact decide_eq_true ⟨hoX, hYa⟩
   refine l_q (q_move (v := .tuple _) rfl rfl) (l_q (q_extract (vs := [_, _]) (v := .agg _) rfl rfl rfl) (l_q (q_extract (vs := [_, _]) (v := .slice _ _ _) rfl rfl rfl) (l_o (o_alloct Tryz.zeroValue29 rfl rfl ?_))))
   intro b10 w10 hzl10 hzr10 _ hb10 hty_b10 hE10
   have hne_b1_b10 : b1 ≠ b10 := by have := hb1.lt; omega
   have hbs_b10 : w.heap.size ≤ b10 := Nat.le_trans hsz hzl10
   replace hB := below_ext hB hE10 hsz
   replace hrN := own_ext hrN hE10
   replace hrY := own_ext hrY hE10
   replace hsz := Nat.le_trans hsz hE10.size
   refine l_o (o_storet (vs := [.slice ka co.length kc, vint er, .slice sa se.length sc, .slice ja sl.length jc, .slice hra N.length hrc]) (cs' := [.slice ka co.length kc, vint er, .slice sa se.length sc, .slice ja sl.length jc, .slice hra N.length hrc]) Tryz.sizeOf29 rfl rfl rfl rfl hb10 (Nat.le_of_ble_eq_true rfl) rfl rfl ?_)
   intro w11 hz11 hb10 hT11 hG11
   replace hB := below_upd hB hG11 hsz (by omega)
   replace hsz : w.heap.size ≤ w11.heap.size := by rw [hz11]; exact hsz
   replace hrN := own_ty_upd hrN hty_b10 hG11 (by decide)
   replace hrY := own_ty_upd hrY hty_b10 hG11 (by decide)
   refine l_q (qas rfl rfl) (l_nil (r_forget [(3, .slice _ _ _), (9, .pointer _), (10, .slice _ _ _)] ⟨rfl, rfl, rfl, trivial⟩ (fun e12 => (r_seq (r_region' (l_q (q_load_agg (n := 5) Tryz.isAgg29 Tryz.sizeOf29 rfl ((hb10.cells' (cs' := [_, _, _, _, _]) 0 5 rfl)) rfl rfl) (l_o (o_call Tryz.call20 rfl (log6_ret ka kc co er sa sc se ja jc sl hra hrc N _ ⟨(hlg.rco.below hB), (hlg.rse.below hB), (hlg.rsl.below hB), (hlg.rslr.below hB), (Row.of_owns hrN)⟩ (hap_big hbg hH hN6)) rfl ?_))))))))
   rintro _ w13 ⟨qka13, qkc13, qsa13, qsc13, qja13, qjc13, qsl13, qra13, qrc13, rfl, hlg13, hm13, hE13⟩
   replace hB := below_ext hB hE13 hsz
   replace hrN := own_ext hrN hE13
   replace hrY := own_ext hrY hE13
   replace hb10 := hb10.ext hE13
   replace hsz := Nat.le_trans hsz hE13.size
   have hv14 := assign6_ret qka13 qkc13 co er qsa13 qsc13 se qja13 qjc13 qsl13 qra13 qrc13 N  w13 hlg13 (big_same hm13 (hap_big hbg hH hN6)) 
   rw [lg_same hm13] at hv14
   refine l_o (o_call Tryz.call36 rfl (hv14) rfl ?_)
   rintro _ w15 ⟨a15_0, c15_0, rfl, hr15_0, hE15⟩
   replace hB := below_ext hB hE15 hsz
   replace hrN := own_ext hrN hE15
   replace hrY := own_ext hrY hE15
   replace hb10 := hb10.ext hE15
   replace hsz := Nat.le_trans hsz hE15.size
   refine l_q (q_move (v := .tuple _) rfl rfl) (l_q (q_extract (vs := [_, _]) (v := .slice _ _ _) rfl rfl rfl) (l_q (q_extract (vs := [_, _]) (v := .int _ _) rfl rfl rfl) (l_q (qas rfl rfl) (l_q (qai rfl rfl) (l_nil (r_seq (r_seq (r_region' (l_q (qmi rfl rfl) (l_q (q_neq rfl rfl rfl) (l_q (qmb rfl rfl) ?_)))))))))))
   have hk16 : (!decide (((assignM (lg co er se sl N)).2) = 0)) = false := by rw [haW]; rfl
   refine l_part 42 rfl (fun hx => absurd (hk16.symm.trans hx) (by decide)) (fun _ => (l_q (q_load_agg (n := 5) Tryz.isAgg29 Tryz.sizeOf29 rfl ((hb10.cells' (cs' := [_, _, _, _, _]) 0 5 rfl)) rfl rfl) (l_o (o_call Tryz.call20 rfl (log6_ret ka kc co er sa sc se ja jc sl hra hrc N _ ⟨(hlg.rco.below hB), (hlg.rse.below hB), (hlg.rsl.below hB), (hlg.rslr.below hB), (Row.of_owns hrN)⟩ (hap_big hbg hH hN6)) rfl ?_))))
   rintro _ w17 ⟨qka17, qkc17, qsa17, qsc17, qja17, qjc17, qsl17, qra17, qrc17, rfl, hlg17, hm17, hE17⟩
   replace hB := below_ext hB hE17 hsz
   replace hrN := own_ext hrN hE17
   replace hrY := own_ext hrY hE17
   replace hb10 := hb10.ext hE17
   replace hr15_0 := hr15_0.ext hE17
   replace hsz := Nat.le_trans hsz hE17.size
   refine l_q (qms rfl rfl) (l_o (o_call Tryz.call39 rfl (list6_ret _ _ ((assignM (lg co er se sl N)).1) _ hr15_0 (by rw [haW]; show (bestM (lg co er se sl N)).length ≤ _; omega)) rfl ?_))
   rintro _ w18 ⟨a18_0, c18_0, rfl, ho18_0, hE18⟩
   replace ho18_0 := own_mono ho18_0 (show w.heap.size ≤ _ by omega)
   replace hB := below_ext hB hE18 hsz
   replace hrN := own_ext hrN hE18
   replace hrY := own_ext hrY hE18
   replace hb10 := hb10.ext hE18
   replace hr15_0 := hr15_0.ext hE18
   replace hlg17 := hlg17.ext hE18
   replace hsz := Nat.le_trans hsz hE18.size
   have hv19 := prove6_ret qka17 qkc17 co er qsa17 qsc17 se qja17 qjc17 qsl17 qra17 qrc17 N _ _ ((assignM (lg co er se sl N)).1) w18 hlg17 (big_same hm17 (hap_big hbg hH hN6)) (Row.of_owns ho18_0) (by omega)
   rw [lg_same hm17] at hv19
   refine l_o (o_call Tryz.call45 rfl (hv19) rfl ?_)
   rintro _ w20 ⟨rfl, hE20⟩
   replace hB := below_ext hB hE20 hsz
   replace hrN := own_ext hrN hE20
   replace hrY := own_ext hrY hE20
   replace hb10 := hb10.ext hE20
   replace hr15_0 := hr15_0.ext hE20
   replace hsz := Nat.le_trans hsz hE20.size
   refine l_q (q_not rfl rfl) (l_q (q_pick_f (v := .bool _) rfl rfl rfl) (l_q (qmb rfl rfl) ?_))
   have hk21 : (!(provM (lg co er se sl N) ((assignM (lg co er se sl N)).1))) = false := by rw [haW]; unfold provM; rw [decide_eq_true ⟨hoX, hbm⟩]; rfl
   refine l_part 50 rfl (fun hx => absurd (hk21.symm.trans hx) (by decide)) (fun _ => (l_q (q_load_agg (n := 5) Tryz.isAgg29 Tryz.sizeOf29 rfl ((hb10.cells' (cs' := [_, _, _, _, _]) 0 5 rfl)) rfl rfl) (l_q (qms rfl rfl) (l_o (o_call Tryz.call46 rfl (isAsg6_ret ka kc co er sa sc se ja jc sl hra hrc N a15_0 c15_0 ((assignM (lg co er se sl N)).1) _ ⟨(hlg.rco.below hB), (hlg.rse.below hB), (hlg.rsl.below hB), (hlg.rslr.below hB), (Row.of_owns hrN)⟩ (hap_big hbg hH hN6) hr15_0 (by rw [haW]; show (bestM (lg co er se sl N)).length ≤ _; omega) hoX) rfl ?_)))))
   rintro _ w22 ⟨rfl, hE22⟩
   replace hB := below_ext hB hE22 hsz
   replace hrN := own_ext hrN hE22
   replace hrY := own_ext hrY hE22
   replace hb10 := hb10.ext hE22
   replace hr15_0 := hr15_0.ext hE22
   replace hsz := Nat.le_trans hsz hE22.size
   refine l_q (q_not rfl rfl) (l_q (q_pick_f (v := .bool _) rfl rfl rfl) (l_nil (r_forget [(3, .slice _ _ _), (9, .pointer _), (10, .slice _ _ _), (11, .slice _ _ _), (55, .bool _)] ⟨rfl, rfl, rfl, rfl, rfl, trivial⟩ (fun e23 => ?_))))
   have hk24 : (!(asgB (lg co er se sl N) ((assignM (lg co er se sl N)).1))) = false := by rw [haW]; unfold asgB; rw [decide_eq_true hbm]; rfl
   refine r_cond_f ((congrArg Value.bool hk24 : Value.bool _ = _)) (r_skip (r_seq (r_region' (l_q (qms rfl rfl) (l_o (o_call Tryz.call51 rfl (falses6_ret _ _ ((assignM (lg co er se sl N)).1) _ hr15_0 (by rw [haW]; show (bestM (lg co er se sl N)).length ≤ _; omega)) rfl ?_))))))
   rintro _ w25 ⟨rfl, hE25⟩
   replace hB := below_ext hB hE25 hsz
   replace hrN := own_ext hrN hE25
   replace hrY := own_ext hrY hE25
   replace hb10 := hb10.ext hE25
   replace hr15_0 := hr15_0.ext hE25
   replace hsz := Nat.le_trans hsz hE25.size
   refine l_q (qai rfl rfl) (l_nil (r_seq (r_seq (r_region' (l_q (qms rfl rfl) (l_o (o_call Tryz.call51 rfl (falses6_ret _ _ Y _ (Row.of_owns hrY) (by omega)) rfl ?_)))))))
   rintro _ w26 ⟨rfl, hE26⟩
   replace hB := below_ext hB hE26 hsz
   replace hrN := own_ext hrN hE26
   replace hrY := own_ext hrY hE26
   replace hb10 := hb10.ext hE26
   replace hr15_0 := hr15_0.ext hE26
   replace hsz := Nat.le_trans hsz hE26.size
   refine l_q (qmi rfl rfl) (l_q (q_lss rfl rfl rfl) (l_q (qmb rfl rfl) ?_))
   have hk27 : (decide ((fals Y) < (fals ((assignM (lg co er se sl N)).1)))) = false := by exact decide_eq_false (by omega)
   refine l_part 62 rfl (fun hx => absurd (hk27.symm.trans hx) (by decide)) (fun _ => (l_q (qms rfl rfl) (l_o (o_call Tryz.call51 rfl (falses6_ret _ _ Y _ (Row.of_owns hrY) (by omega)) rfl ?_))))
   rintro _ w28 ⟨rfl, hE28⟩
   replace hB := below_ext hB hE28 hsz
   replace hrN := own_ext hrN hE28
   replace hrY := own_ext hrY hE28
   replace hb10 := hb10.ext hE28
   replace hr15_0 := hr15_0.ext hE28
   replace hsz := Nat.le_trans hsz hE28.size
   refine l_q (qmi rfl rfl) (l_q (q_eql rfl rfl rfl) (l_q (qmb rfl rfl) (l_part 67 rfl (fun hc29 => ?_) (fun hc29 => ?_))))
   ·
    replace hc29 := dt hc29
    have g67 : fals Y = fals (bestM (lg co er se sl N)) := by have h := hc29; rw [haW] at h; exact h
    refine l_q (qms rfl rfl) (l_q (qms rfl rfl) (l_o (o_call Tryz.call52 rfl (bef6_ret _ _ Y _ _ ((assignM (lg co er se sl N)).1) _ (Row.of_owns hrY) (by omega) hr15_0 (by rw [haW]; show (bestM (lg co er se sl N)).length ≤ _; omega)) rfl ?_)))
    rintro _ w30 ⟨rfl, hE30⟩
    replace hB := below_ext hB hE30 hsz
    replace hrN := own_ext hrN hE30
    replace hb10 := hb10.ext hE30
    replace hr15_0 := hr15_0.ext hE30
    replace hsz := Nat.le_trans hsz hE30.size
    refine l_q (q_pick_t (v := .bool _) rfl rfl rfl) (l_q (q_pick_f (v := .bool _) rfl rfl rfl) (l_nil (r_forget [(3, .slice _ _ _), (9, .pointer _), (11, .slice _ _ _), (13, .int _ _), (72, .bool _)] ⟨rfl, rfl, rfl, rfl, rfl, trivial⟩ (fun e31 => ?_))))
    have hk32 : (decide (cmpV Y ((assignM (lg co er se sl N)).1) < 0)) = false := by rw [haW]; exact decide_eq_false (hlex g67)
    refine r_cond_f ((congrArg Value.bool hk32 : Value.bool _ = _)) (r_skip (r_seq (r_region' (l_q (q_load_agg (n := 5) Tryz.isAgg29 Tryz.sizeOf29 rfl ((hb10.cells' (cs' := [_, _, _, _, _]) 0 5 rfl)) rfl rfl) (l_o (o_call Tryz.call20 rfl (log6_ret ka kc co er sa sc se ja jc sl hra hrc N _ ⟨(hlg.rco.below hB), (hlg.rse.below hB), (hlg.rsl.below hB), (hlg.rslr.below hB), (Row.of_owns hrN)⟩ (hap_big hbg hH hN6)) rfl ?_))))))
    rintro _ w33 ⟨qka33, qkc33, qsa33, qsc33, qja33, qjc33, qsl33, qra33, qrc33, rfl, hlg33, hm33, hE33⟩
    replace hB := below_ext hB hE33 hsz
    replace hrN := own_ext hrN hE33
    replace hb10 := hb10.ext hE33
    replace hr15_0 := hr15_0.ext hE33
    replace hsz := Nat.le_trans hsz hE33.size
    refine l_q (qms rfl rfl) (l_o (o_call Tryz.call39 rfl (list6_ret _ _ xs _ (hx.below hB) (by omega)) rfl ?_))
    rintro _ w34 ⟨a34_0, c34_0, rfl, ho34_0, hE34⟩
    replace ho34_0 := own_mono ho34_0 (show w.heap.size ≤ _ by omega)
    replace hB := below_ext hB hE34 hsz
    replace hrN := own_ext hrN hE34
    replace hb10 := hb10.ext hE34
    replace hr15_0 := hr15_0.ext hE34
    replace hlg33 := hlg33.ext hE34
    replace hsz := Nat.le_trans hsz hE34.size
    have hv35 := prove6_ret qka33 qkc33 co er qsa33 qsc33 se qja33 qjc33 qsl33 qra33 qrc33 N _ _ xs w34 hlg33 (big_same hm33 (hap_big hbg hH hN6)) (Row.of_owns ho34_0) (by omega)
    rw [lg_same hm33] at hv35
    refine l_o (o_call Tryz.call45 rfl (hv35) rfl ?_)
    rintro _ w36 ⟨rfl, hE36⟩
    replace hB := below_ext hB hE36 hsz
    replace hrN := own_ext hrN hE36
    replace hb10 := hb10.ext hE36
    replace hr15_0 := hr15_0.ext hE36
    replace hsz := Nat.le_trans hsz hE36.size
    refine l_q (qab rfl rfl) (l_nil (r_seq (r_region' (l_q (qms rfl rfl) (l_o (o_call Tryz.call51 rfl (falses6_ret _ _ xs _ (hx.below hB) (by omega)) rfl ?_))))))
    rintro _ w37 ⟨rfl, hE37⟩
    replace hB := below_ext hB hE37 hsz
    replace hrN := own_ext hrN hE37
    replace hb10 := hb10.ext hE37
    replace hr15_0 := hr15_0.ext hE37
    replace hsz := Nat.le_trans hsz hE37.size
    refine l_q (qai rfl rfl) (l_nil (r_seq (r_region' (l_q (qmb rfl rfl) (l_q (q_not rfl rfl) (l_q (qmb rfl rfl) (l_part 82 rfl (fun hc38 => ?_) (fun hc38 => ?_))))))))
    ·
     replace hc38 := nt hc38
     refine l_q (q_skip rfl) (l_q (q_skip rfl) (l_q (q_skip rfl) (l_q (q_pick_t (v := .bool _) rfl rfl rfl) (l_q (qmb rfl rfl) (l_q (q_skip rfl) (l_q (q_skip rfl) (l_q (q_skip rfl) (l_q (q_skip rfl) (l_q (q_skip rfl) (l_q (q_skip rfl) (l_q (q_skip rfl) (l_q (q_skip rfl) (l_q (q_skip rfl) (l_q (q_pick_t (v := .bool _) rfl rfl rfl) (l_q (qmb rfl rfl) (l_o (o_call Tryz.call18 rfl (awake6_ret _) rfl ?_)))))))))))))))))
     rintro _ w39 ⟨rfl, hE39⟩
     replace hB := below_ext hB hE39 hsz
     replace hrN := own_ext hrN hE39
     replace hb10 := hb10.ext hE39
     replace hr15_0 := hr15_0.ext hE39
     replace hsz := Nat.le_trans hsz hE39.size
     refine l_q (q_pick_t (v := .bool _) rfl rfl rfl) (l_q (qab rfl rfl) (l_nil (r_forget [(8, .bool _)] ⟨rfl, trivial⟩ (fun e40 => (r_ret_ (vs := [.bool _]) rfl Tryz.func16 rfl (.nil _) ⟨rfl, trivial⟩ ?_)))))
     exact ⟨rfl, Ext.of_below hB⟩
    ·
     replace hc38 := nf hc38
     have hpx : provM (lg co er se sl N) xs = true := by simpa using hc38
     have hxa : xs ∈ asgM (lg co er se sl N) noB := by have h := hpx; unfold provM at h; exact (of_decide_eq_true h).2
     obtain ⟨hmx, hlx⟩ := best_min hoX hxa
     refine l_q (qmi rfl rfl) (l_q (qmi rfl rfl) (l_q (q_gtr rfl rfl rfl) (l_q (q_pick_f (v := .bool _) rfl rfl rfl) (l_q (qmb rfl rfl) (l_part 87 rfl (fun hc41 => ?_) (fun hc41 => ?_))))))
     ·
      replace hc41 := dt hc41
      refine l_q (q_skip rfl) (l_q (q_skip rfl) (l_q (q_skip rfl) (l_q (q_skip rfl) (l_q (q_skip rfl) (l_q (q_skip rfl) (l_q (q_skip rfl) (l_q (q_skip rfl) (l_q (q_skip rfl) (l_q (q_pick_t (v := .bool _) rfl rfl rfl) (l_q (qmb rfl rfl) (l_o (o_call Tryz.call18 rfl (awake6_ret _) rfl ?_))))))))))))
      rintro _ w42 ⟨rfl, hE42⟩
      replace hB := below_ext hB hE42 hsz
      replace hrN := own_ext hrN hE42
      replace hb10 := hb10.ext hE42
      replace hr15_0 := hr15_0.ext hE42
      replace hsz := Nat.le_trans hsz hE42.size
      refine l_q (q_pick_t (v := .bool _) rfl rfl rfl) (l_q (qab rfl rfl) (l_nil (r_forget [(8, .bool _)] ⟨rfl, trivial⟩ (fun e43 => (r_ret_ (vs := [.bool _]) rfl Tryz.func16 rfl (.nil _) ⟨rfl, trivial⟩ ?_)))))
      exact ⟨rfl, Ext.of_below hB⟩
     ·
      replace hc41 := dlt hc41
      have g87 : ¬ fals (bestM (lg co er se sl N)) < fals xs := by have h := hc41; rw [haW] at h; exact (by first | exact h | exact Int.not_lt.2 h)
      refine l_q (qmi rfl rfl) (l_q (qmi rfl rfl) (l_q (q_eql rfl rfl rfl) (l_q (qmb rfl rfl) ?_)))
      have hk44 : (decide ((fals xs) = (fals ((assignM (lg co er se sl N)).1)))) = true := by rw [haW]; exact decide_eq_true (by show fals xs = fals (bestM (lg co er se sl N)); omega)
      refine l_part 91 rfl (fun _ => ?_) (fun hx => absurd (hk44.symm.trans hx) (by decide))
      refine l_q (qms rfl rfl) (l_q (qms rfl rfl) (l_o (o_call Tryz.call52 rfl (bef6_ret _ _ xs _ _ ((assignM (lg co er se sl N)).1) _ (hx.below hB) (by omega) hr15_0 (by rw [haW]; show (bestM (lg co er se sl N)).length ≤ _; omega)) rfl ?_)))
      rintro _ w45 ⟨rfl, hE45⟩
      replace hB := below_ext hB hE45 hsz
      replace hrN := own_ext hrN hE45
      replace hb10 := hb10.ext hE45
      replace hr15_0 := hr15_0.ext hE45
      replace hsz := Nat.le_trans hsz hE45.size
      refine l_q (q_not rfl rfl) (l_q (q_pick_t (v := .bool _) rfl rfl rfl) (l_q (q_pick_f (v := .bool _) rfl rfl rfl) (l_q (qmb rfl rfl) ?_)))
      have hk46 : (!(decide (cmpV xs ((assignM (lg co er se sl N)).1) < 0))) = true := by rw [haW, decide_eq_false (hlx (by omega))]; rfl
      refine l_part 98 rfl (fun _ => ?_) (fun hx => absurd (hk46.symm.trans hx) (by decide))
      refine l_o (o_call Tryz.call18 rfl (awake6_ret _) rfl ?_)
      rintro _ w47 ⟨rfl, hE47⟩
      replace hB := below_ext hB hE47 hsz
      replace hrN := own_ext hrN hE47
      replace hb10 := hb10.ext hE47
      replace hr15_0 := hr15_0.ext hE47
      replace hsz := Nat.le_trans hsz hE47.size
      refine l_q (q_pick_t (v := .bool _) rfl rfl rfl) (l_q (qab rfl rfl) (l_nil (r_forget [(8, .bool _)] ⟨rfl, trivial⟩ (fun e48 => (r_ret_ (vs := [.bool _]) rfl Tryz.func16 rfl (.nil _) ⟨rfl, trivial⟩ ?_)))))
      exact ⟨rfl, Ext.of_below hB⟩
   ·
    replace hc29 := df hc29
    refine l_q (q_skip rfl) (l_q (q_skip rfl) (l_q (q_skip rfl) (l_q (q_pick_f (v := .bool _) rfl rfl rfl) (l_q (q_pick_f (v := .bool _) rfl rfl rfl) (l_nil (r_forget [(3, .slice _ _ _), (9, .pointer _), (11, .slice _ _ _), (13, .int _ _), (72, .bool _)] ⟨rfl, rfl, rfl, rfl, rfl, trivial⟩ (fun e49 => (r_cond_f rfl (r_skip (r_seq (r_region' (l_q (q_load_agg (n := 5) Tryz.isAgg29 Tryz.sizeOf29 rfl ((hb10.cells' (cs' := [_, _, _, _, _]) 0 5 rfl)) rfl rfl) (l_o (o_call Tryz.call20 rfl (log6_ret ka kc co er sa sc se ja jc sl hra hrc N _ ⟨(hlg.rco.below hB), (hlg.rse.below hB), (hlg.rsl.below hB), (hlg.rslr.below hB), (Row.of_owns hrN)⟩ (hap_big hbg hH hN6)) rfl ?_))))))))))))))
    rintro _ w50 ⟨qka50, qkc50, qsa50, qsc50, qja50, qjc50, qsl50, qra50, qrc50, rfl, hlg50, hm50, hE50⟩
    replace hB := below_ext hB hE50 hsz
    replace hr15_0 := hr15_0.ext hE50
    replace hsz := Nat.le_trans hsz hE50.size
    refine l_q (qms rfl rfl) (l_o (o_call Tryz.call39 rfl (list6_ret _ _ xs _ (hx.below hB) (by omega)) rfl ?_))
    rintro _ w51 ⟨a51_0, c51_0, rfl, ho51_0, hE51⟩
    replace ho51_0 := own_mono ho51_0 (show w.heap.size ≤ _ by omega)
    replace hB := below_ext hB hE51 hsz
    replace hr15_0 := hr15_0.ext hE51
    replace hlg50 := hlg50.ext hE51
    replace hsz := Nat.le_trans hsz hE51.size
    have hv52 := prove6_ret qka50 qkc50 co er qsa50 qsc50 se qja50 qjc50 qsl50 qra50 qrc50 N _ _ xs w51 hlg50 (big_same hm50 (hap_big hbg hH hN6)) (Row.of_owns ho51_0) (by omega)
    rw [lg_same hm50] at hv52
    refine l_o (o_call Tryz.call45 rfl (hv52) rfl ?_)
    rintro _ w53 ⟨rfl, hE53⟩
    replace hB := below_ext hB hE53 hsz
    replace hr15_0 := hr15_0.ext hE53
    replace hsz := Nat.le_trans hsz hE53.size
    refine l_q (qab rfl rfl) (l_nil (r_seq (r_region' (l_q (qms rfl rfl) (l_o (o_call Tryz.call51 rfl (falses6_ret _ _ xs _ (hx.below hB) (by omega)) rfl ?_))))))
    rintro _ w54 ⟨rfl, hE54⟩
    replace hB := below_ext hB hE54 hsz
    replace hr15_0 := hr15_0.ext hE54
    replace hsz := Nat.le_trans hsz hE54.size
    refine l_q (qai rfl rfl) (l_nil (r_seq (r_region' (l_q (qmb rfl rfl) (l_q (q_not rfl rfl) (l_q (qmb rfl rfl) (l_part 82 rfl (fun hc55 => ?_) (fun hc55 => ?_))))))))
    ·
     replace hc55 := nt hc55
     refine l_q (q_skip rfl) (l_q (q_skip rfl) (l_q (q_skip rfl) (l_q (q_pick_t (v := .bool _) rfl rfl rfl) (l_q (qmb rfl rfl) (l_q (q_skip rfl) (l_q (q_skip rfl) (l_q (q_skip rfl) (l_q (q_skip rfl) (l_q (q_skip rfl) (l_q (q_skip rfl) (l_q (q_skip rfl) (l_q (q_skip rfl) (l_q (q_skip rfl) (l_q (q_pick_t (v := .bool _) rfl rfl rfl) (l_q (qmb rfl rfl) (l_o (o_call Tryz.call18 rfl (awake6_ret _) rfl ?_)))))))))))))))))
     rintro _ w56 ⟨rfl, hE56⟩
     replace hB := below_ext hB hE56 hsz
     replace hr15_0 := hr15_0.ext hE56
     replace hsz := Nat.le_trans hsz hE56.size
     refine l_q (q_pick_t (v := .bool _) rfl rfl rfl) (l_q (qab rfl rfl) (l_nil (r_forget [(8, .bool _)] ⟨rfl, trivial⟩ (fun e57 => (r_ret_ (vs := [.bool _]) rfl Tryz.func16 rfl (.nil _) ⟨rfl, trivial⟩ ?_)))))
     exact ⟨rfl, Ext.of_below hB⟩
    ·
     replace hc55 := nf hc55
     have hpx : provM (lg co er se sl N) xs = true := by simpa using hc55
     have hxa : xs ∈ asgM (lg co er se sl N) noB := by have h := hpx; unfold provM at h; exact (of_decide_eq_true h).2
     obtain ⟨hmx, hlx⟩ := best_min hoX hxa
     refine l_q (qmi rfl rfl) (l_q (qmi rfl rfl) (l_q (q_gtr rfl rfl rfl) (l_q (q_pick_f (v := .bool _) rfl rfl rfl) (l_q (qmb rfl rfl) (l_part 87 rfl (fun hc58 => ?_) (fun hc58 => ?_))))))
     ·
      replace hc58 := dt hc58
      refine l_q (q_skip rfl) (l_q (q_skip rfl) (l_q (q_skip rfl) (l_q (q_skip rfl) (l_q (q_skip rfl) (l_q (q_skip rfl) (l_q (q_skip rfl) (l_q (q_skip rfl) (l_q (q_skip rfl) (l_q (q_pick_t (v := .bool _) rfl rfl rfl) (l_q (qmb rfl rfl) (l_o (o_call Tryz.call18 rfl (awake6_ret _) rfl ?_))))))))))))
      rintro _ w59 ⟨rfl, hE59⟩
      replace hB := below_ext hB hE59 hsz
      replace hr15_0 := hr15_0.ext hE59
      replace hsz := Nat.le_trans hsz hE59.size
      refine l_q (q_pick_t (v := .bool _) rfl rfl rfl) (l_q (qab rfl rfl) (l_nil (r_forget [(8, .bool _)] ⟨rfl, trivial⟩ (fun e60 => (r_ret_ (vs := [.bool _]) rfl Tryz.func16 rfl (.nil _) ⟨rfl, trivial⟩ ?_)))))
      exact ⟨rfl, Ext.of_below hB⟩
     ·
      replace hc58 := dlt hc58
      have g87 : ¬ fals (bestM (lg co er se sl N)) < fals xs := by have h := hc58; rw [haW] at h; exact (by first | exact h | exact Int.not_lt.2 h)
      refine l_q (qmi rfl rfl) (l_q (qmi rfl rfl) (l_q (q_eql rfl rfl rfl) (l_q (qmb rfl rfl) ?_)))
      have hk61 : (decide ((fals xs) = (fals ((assignM (lg co er se sl N)).1)))) = true := by rw [haW]; exact decide_eq_true (by show fals xs = fals (bestM (lg co er se sl N)); omega)
      refine l_part 91 rfl (fun _ => ?_) (fun hx => absurd (hk61.symm.trans hx) (by decide))
      refine l_q (qms rfl rfl) (l_q (qms rfl rfl) (l_o (o_call Tryz.call52 rfl (bef6_ret _ _ xs _ _ ((assignM (lg co er se sl N)).1) _ (hx.below hB) (by omega) hr15_0 (by rw [haW]; show (bestM (lg co er se sl N)).length ≤ _; omega)) rfl ?_)))
      rintro _ w62 ⟨rfl, hE62⟩
      replace hB := below_ext hB hE62 hsz
      replace hsz := Nat.le_trans hsz hE62.size
      refine l_q (q_not rfl rfl) (l_q (q_pick_t (v := .bool _) rfl rfl rfl) (l_q (q_pick_f (v := .bool _) rfl rfl rfl) (l_q (qmb rfl rfl) ?_)))
      have hk63 : (!(decide (cmpV xs ((assignM (lg co er se sl N)).1) < 0))) = true := by rw [haW, decide_eq_false (hlx (by omega))]; rfl
      refine l_part 98 rfl (fun _ => ?_) (fun hx => absurd (hk63.symm.trans hx) (by decide))
      refine l_o (o_call Tryz.call18 rfl (awake6_ret _) rfl ?_)
      rintro _ w64 ⟨rfl, hE64⟩
      replace hB := below_ext hB hE64 hsz
      replace hsz := Nat.le_trans hsz hE64.size
      refine l_q (q_pick_t (v := .bool _) rfl rfl rfl) (l_q (qab rfl rfl) (l_nil (r_forget [(8, .bool _)] ⟨rfl, trivial⟩ (fun e65 => (r_ret_ (vs := [.bool _]) rfl Tryz.func16 rfl (.nil _) ⟨rfl, trivial⟩ ?_)))))
      exact ⟨rfl, Ext.of_below hB⟩
end Go.Proofs.YtekkdhpgcilpdaaGreat
