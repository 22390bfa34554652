/- Contracts. -/
import Derived.Test.YtekkdhpgcilpdaaGreatM25
set_option linter.unusedVariables false
set_option linter.unusedSimpArgs false
namespace Go.Proofs.YtekkdhpgcilpdaaGreat
open Go Go.RowKit Go.Gv Go.Fl


set_option maxHeartbeats 1000000 in
theorem maskAssigns_ret (ka : Option Addr) (kc : Nat) (co : List Sg) (er : Int) (sa : Option Addr) (sc : Nat) (se : List Int) (ja : Option Addr) (jc : Nat) (sl : List SN) (ra : Option Addr) (rc : Nat) (rl : List RC) (xa : Option Addr) (xc : Nat) (xs : List Int) (w : World) (hlg : LgAt w ka kc co sa sc se ja jc sl ra rc rl) (hbg : LgBig co er se sl rl) (hx : Row w xa xs.length xc 1 (xs.map vint)) (hxn : xs.length ≤ 2097152) : Ret Tryz.prog 13 [.agg ⟨[.slice ka co.length kc, vint er, .slice sa se.length sc, .slice ja sl.length jc, .slice ra rl.length rc]⟩, .slice xa xs.length xc] w (fun v w' => v = .bool true ∧ Ext w w') := by
 obtain ⟨⟨hcn, hcl⟩, hen, hsn, ⟨hjn, hjl⟩, hrn, hrl⟩ := id hbg
 have hB := Below.refl w.heap.size w
 have hsz : w.heap.size ≤ w.heap.size := Nat.le_refl _
 refine ret_of_runs (args := [_, _]) Tryz.func13 rfl (Nat.le_of_ble_eq_true rfl) (by kernel_rfl) (r_seq (r_region' (l_o (o_box rfl rfl rfl ?_))))
 intro b1 w1 hzl1 hzr1 _ hb1 hE1
 have hbs_b1 : w.heap.size ≤ b1 := Nat.le_trans hsz hzl1
 replace hB := below_ext hB hE1 hsz
 replace hsz := Nat.le_trans hsz hE1.size
 refine l_q (qab rfl rfl) (l_nil (r_seq (r_seq (r_region' (l_q (q_load_agg (n := 5) Tryz.isAgg29 Tryz.sizeOf29 rfl ((hb1.cells' (cs' := [_, _, _, _, _]) 0 5 rfl)) rfl rfl) (l_o (o_call Tryz.call31 rfl (small6_ret ka kc co er sa sc se ja jc sl ra rc rl _ (hlg.below hB) hbg) rfl ?_)))))))
 rintro _ w2 ⟨bb2, rfl, hsml, hE2⟩
 replace hB := below_ext hB hE2 hsz
 replace hb1 := hb1.ext hE2
 replace hsz := Nat.le_trans hsz hE2.size
 refine l_q (q_not rfl rfl) (l_q (qmb rfl rfl) (l_part 17 rfl (fun hc3 => ?_) (fun hc3 => ?_)))
 ·
  replace hc3 := nt hc3
  refine l_q (q_skip rfl) (l_q (q_skip rfl) (l_q (q_skip rfl) (l_q (q_pick_t (v := .bool _) rfl rfl rfl) (l_nil (r_cond_t rfl (r_seq (r_region' (l_o (o_call Tryz.call18 rfl (awake6_ret _) rfl ?_)))))))))
  rintro _ w4 ⟨rfl, hE4⟩
  replace hB := below_ext hB hE4 hsz
  replace hb1 := hb1.ext hE4
  replace hsz := Nat.le_trans hsz hE4.size
  refine l_q (qab rfl rfl) (l_nil (r_forget [(4, .bool _)] ⟨rfl, trivial⟩ (fun e5 => (r_ret_ (vs := [.bool _]) rfl Tryz.func13 rfl (.nil _) ⟨rfl, trivial⟩ ?_))))
  exact ⟨rfl, Ext.of_below hB⟩
 ·
  replace hc3 := nf hc3
  have hsm := hsml (by simpa using hc3)
  refine l_q (qms rfl rfl) (l_q (q_len rfl Tryz.underlying25 rfl rfl) (l_q (q_gtr rfl rfl rfl) (l_q (q_pick_f (v := .bool _) rfl rfl rfl) (l_nil (r_cond rfl (fun hc6 => ?_) (fun hc6 => ?_))))))
  ·
   replace hc6 := dt hc6
   refine r_seq (r_region' (l_o (o_call Tryz.call18 rfl (awake6_ret _) rfl ?_)))
   rintro _ w7 ⟨rfl, hE7⟩
   replace hB := below_ext hB hE7 hsz
   replace hb1 := hb1.ext hE7
   replace hsz := Nat.le_trans hsz hE7.size
   refine l_q (qab rfl rfl) (l_nil (r_forget [(4, .bool _)] ⟨rfl, trivial⟩ (fun e8 => (r_ret_ (vs := [.bool _]) rfl Tryz.func13 rfl (.nil _) ⟨rfl, trivial⟩ ?_))))
   exact ⟨rfl, Ext.of_below hB⟩
  ·
   replace hc6 := dlt hc6
   refine r_skip (r_seq (r_region' (l_q (q_load_agg (n := 5) Tryz.isAgg29 Tryz.sizeOf29 rfl ((hb1.cells' (cs' := [_, _, _, _, _]) 0 5 rfl)) rfl rfl) (l_o (o_call Tryz.call20 rfl (log6_ret ka kc co er sa sc se ja jc sl ra rc rl _ (hlg.below hB) hbg) rfl ?_)))))
   rintro _ w9 ⟨qka9, qkc9, qsa9, qsc9, qja9, qjc9, qsl9, qra9, qrc9, rfl, hlg9, hm9, hE9⟩
   replace hB := below_ext hB hE9 hsz
   replace hb1 := hb1.ext hE9
   replace hsz := Nat.le_trans hsz hE9.size
   have hv10 := assign6_ret qka9 qkc9 co er qsa9 qsc9 se qja9 qjc9 qsl9 qra9 qrc9 rl  w9 hlg9 (big_same hm9 hbg) 
   rw [lg_same hm9] at hv10
   refine l_o (o_call Tryz.call36 rfl (hv10) rfl ?_)
   rintro _ w11 ⟨a11_0, c11_0, rfl, hr11_0, hE11⟩
   replace hB := below_ext hB hE11 hsz
   replace hb1 := hb1.ext hE11
   replace hsz := Nat.le_trans hsz hE11.size
   refine l_q (q_move (v := .tuple _) rfl rfl) (l_q (q_extract (vs := [_, _]) (v := .slice _ _ _) rfl rfl rfl) (l_q (q_extract (vs := [_, _]) (v := .int _ _) rfl rfl rfl) (l_q (qas rfl rfl) (l_q (qai rfl rfl) (l_nil (r_forget [(1, .slice _ _ _), (2, .pointer _), (5, .slice _ _ _), (6, .int _ _)] ⟨rfl, rfl, rfl, rfl, trivial⟩ (fun e12 => (r_seq (r_region' (l_q (q_load_agg (n := 5) Tryz.isAgg29 Tryz.sizeOf29 rfl ((hb1.cells' (cs' := [_, _, _, _, _]) 0 5 rfl)) rfl rfl) (l_o (o_call Tryz.call20 rfl (log6_ret ka kc co er sa sc se ja jc sl ra rc rl _ (hlg.below hB) hbg) rfl ?_))))))))))))
   rintro _ w13 ⟨qka13, qkc13, qsa13, qsc13, qja13, qjc13, qsl13, qra13, qrc13, rfl, hlg13, hm13, hE13⟩
   replace hB := below_ext hB hE13 hsz
   replace hb1 := hb1.ext hE13
   replace hr11_0 := hr11_0.ext hE13
   replace hsz := Nat.le_trans hsz hE13.size
   have hv14 := verdicts6_ret qka13 qkc13 co er qsa13 qsc13 se qja13 qjc13 qsl13 qra13 qrc13 rl  w13 hlg13 (big_same hm13 hbg) 
   rw [lg_same hm13] at hv14
   refine l_o (o_call Tryz.call35 rfl (hv14) rfl ?_)
   rintro _ w15 ⟨a15_0, c15_0, rfl, hr15_0, hE15⟩
   replace hB := below_ext hB hE15 hsz
   replace hb1 := hb1.ext hE15
   replace hr11_0 := hr11_0.ext hE15
   replace hsz := Nat.le_trans hsz hE15.size
   refine l_q (q_move (v := .tuple _) rfl rfl) (l_q (q_extract (vs := [_, _]) (v := .slice _ _ _) rfl rfl rfl) (l_q (q_extract (vs := [_, _]) (v := .int _ _) rfl rfl rfl) (l_q (qas rfl rfl) (l_q (qai rfl rfl) (l_nil (r_seq (r_region' (l_q (q_load_agg (n := 5) Tryz.isAgg29 Tryz.sizeOf29 rfl ((hb1.cells' (cs' := [_, _, _, _, _]) 0 5 rfl)) rfl rfl) (l_o (o_call Tryz.call20 rfl (log6_ret ka kc co er sa sc se ja jc sl ra rc rl _ (hlg.below hB) hbg) rfl ?_))))))))))
   rintro _ w16 ⟨qka16, qkc16, qsa16, qsc16, qja16, qjc16, qsl16, qra16, qrc16, rfl, hlg16, hm16, hE16⟩
   replace hB := below_ext hB hE16 hsz
   replace hb1 := hb1.ext hE16
   replace hr11_0 := hr11_0.ext hE16
   replace hr15_0 := hr15_0.ext hE16
   replace hsz := Nat.le_trans hsz hE16.size
   refine l_q (qms rfl rfl) (l_o (o_call Tryz.call39 rfl (list6_ret _ _ xs _ (hx.below hB) (by omega)) rfl ?_))
   rintro _ w17 ⟨a17_0, c17_0, rfl, ho17_0, hE17⟩
   replace ho17_0 := own_mono ho17_0 (show w.heap.size ≤ _ by omega)
   replace hB := below_ext hB hE17 hsz
   replace hb1 := hb1.ext hE17
   replace hr11_0 := hr11_0.ext hE17
   replace hr15_0 := hr15_0.ext hE17
   replace hlg16 := hlg16.ext hE17
   replace hsz := Nat.le_trans hsz hE17.size
   have hv18 := prove6_ret qka16 qkc16 co er qsa16 qsc16 se qja16 qjc16 qsl16 qra16 qrc16 rl _ _ xs w17 hlg16 (big_same hm16 hbg) (Row.of_owns ho17_0) (by omega)
   rw [lg_same hm16] at hv18
   refine l_o (o_call Tryz.call45 rfl (hv18) rfl ?_)
   rintro _ w19 ⟨rfl, hE19⟩
   replace hB := below_ext hB hE19 hsz
   replace hb1 := hb1.ext hE19
   replace hr11_0 := hr11_0.ext hE19
   replace hr15_0 := hr15_0.ext hE19
   replace hsz := Nat.le_trans hsz hE19.size
   refine l_q (qab rfl rfl) (l_nil (r_forget [(1, .slice _ _ _), (2, .pointer _), (5, .slice _ _ _), (6, .int _ _), (7, .slice _ _ _), (8, .int _ _), (9, .bool _)] ⟨rfl, rfl, rfl, rfl, rfl, rfl, rfl, trivial⟩ (fun e20 => (r_seq (r_region' (l_q (q_load_agg (n := 5) Tryz.isAgg29 Tryz.sizeOf29 rfl ((hb1.cells' (cs' := [_, _, _, _, _]) 0 5 rfl)) rfl rfl) (l_o (o_call Tryz.call22 rfl (lfault6_ret ka kc co er sa sc se ja jc sl ra rc rl _ (hlg.below hB) hbg) rfl ?_))))))))
   rintro _ w21 ⟨rfl, hE21⟩
   replace hB := below_ext hB hE21 hsz
   replace hb1 := hb1.ext hE21
   replace hr11_0 := hr11_0.ext hE21
   replace hr15_0 := hr15_0.ext hE21
   replace hsz := Nat.le_trans hsz hE21.size
   refine l_q (qai rfl rfl) (l_nil (r_seq (r_seq (r_region' (l_q (qmb rfl rfl) (l_q (qmi rfl rfl) (l_q (q_eql rfl rfl rfl) (l_q (qmb rfl rfl) (l_part 45 rfl (fun hc22 => ?_) (fun hc22 => ?_))))))))))
   ·
    replace hc22 := dt hc22
    have hok : faultM (lg co er se sl rl) = 0 := hc22
    obtain ⟨hJ5, hR4⟩ := hsm hok
    refine l_q (q_load_agg (n := 5) Tryz.isAgg29 Tryz.sizeOf29 rfl ((hb1.cells' (cs' := [_, _, _, _, _]) 0 5 rfl)) rfl rfl) (l_q (qms rfl rfl) (l_o (o_call Tryz.call46 rfl (isAsg6_ret ka kc co er sa sc se ja jc sl ra rc rl xa xc xs _ (hlg.below hB) hbg (hx.below hB) hxn hok) rfl ?_)))
    rintro _ w23 ⟨rfl, hE23⟩
    replace hB := below_ext hB hE23 hsz
    replace hb1 := hb1.ext hE23
    replace hr11_0 := hr11_0.ext hE23
    replace hr15_0 := hr15_0.ext hE23
    replace hsz := Nat.le_trans hsz hE23.size
    refine l_q (q_pick_t (v := .bool _) rfl rfl rfl) (l_q (q_neq_bool Tryz.underlying4 rfl rfl rfl) (l_nil (r_forget [(2, .pointer _), (5, .slice _ _ _), (6, .int _ _), (7, .slice _ _ _), (8, .int _ _), (10, .int _ _), (50, .bool _)] ⟨rfl, rfl, rfl, rfl, rfl, rfl, rfl, trivial⟩ (fun e24 => ?_))))
    have hk25 : (!((provM (lg co er se sl rl) xs) == (asgB (lg co er se sl rl) xs))) = false := by rw [prov_asg hok]; simp
    refine r_cond_f ((congrArg Value.bool hk25 : Value.bool _ = _)) (r_skip (r_seq (r_region' (l_q (qas rfl rfl) (l_nil (r_seq (r_seq (r_region' (l_q (qmi rfl rfl) (l_q (q_eql rfl rfl rfl) (l_nil ?_)))))))))))
    have hk26 : (decide ((faultM (lg co er se sl rl)) = 0)) = true := decide_eq_true hok
    refine r_cond_t ((congrArg Value.bool hk26 : Value.bool _ = _)) (r_seq (r_region' (l_q (q_load_agg (n := 5) Tryz.isAgg29 Tryz.sizeOf29 rfl ((hb1.cells' (cs' := [_, _, _, _, _]) 0 5 rfl)) rfl rfl) (l_o (o_call Tryz.call47 rfl (rassign6_ret ka kc co er sa sc se ja jc sl ra rc rl _ (hlg.below hB) hbg hok hJ5 hR4) rfl ?_)))))
    rintro _ w27 ⟨a27_0, c27_0, rfl, hr27_0, hE27⟩
    replace hB := below_ext hB hE27 hsz
    replace hb1 := hb1.ext hE27
    replace hr11_0 := hr11_0.ext hE27
    replace hr15_0 := hr15_0.ext hE27
    replace hsz := Nat.le_trans hsz hE27.size
    refine l_q (q_move (v := .tuple _) rfl rfl) (l_q (q_extract (vs := [_, _]) (v := .slice _ _ _) rfl rfl rfl) (l_q (q_extract (vs := [_, _]) (v := .bool _) rfl rfl rfl) (l_q (qas rfl rfl) (l_q (qab rfl rfl) (l_nil (r_seq (r_region' (l_q (qms rfl rfl) (l_q (qas rfl rfl) (l_nil (r_forget [(2, .pointer _), (5, .slice _ _ _), (6, .int _ _), (7, .slice _ _ _), (8, .int _ _), (10, .int _ _), (11, .slice _ _ _), (13, .bool _)] ⟨rfl, rfl, rfl, rfl, rfl, rfl, rfl, rfl, trivial⟩ (fun e28 => (r_seq (r_region' (l_q (qmb rfl rfl) (l_q (q_not rfl rfl) (l_nil (r_cond rfl (fun hc29 => ?_) (fun hc29 => ?_)))))))))))))))))))
    ·
     replace hc29 := df (nt hc29)
     have hnn : asgM (lg co er se sl rl) noB = [] := by have := hc29; simpa using this
     have haW := asg_none hok hnn
     have hvW := verd_none hok hnn
     refine r_region' (l_q (qai rfl rfl) (l_nil (r_seq (r_seq (r_region' (l_q (qmi rfl rfl) (l_q (q_neq rfl rfl rfl) (l_nil ?_))))))))
     have hk30 : (!decide (11 = 0)) = true := by decide
     refine r_cond_t ((congrArg Value.bool hk30 : Value.bool _ = _)) (r_seq (r_region' (l_q (qmi rfl rfl) (l_q (qmi rfl rfl) (l_q (q_eql rfl rfl rfl) (l_q (qmb rfl rfl) ?_))))))
     have hk31 : (decide (((assignM (lg co er se sl rl)).2) = 11)) = true := by rw [haW]; rfl
     refine l_part 66 rfl (fun _ => ?_) (fun hx => absurd (hk31.symm.trans hx) (by decide))
     refine l_q (qmi rfl rfl) (l_q (qmi rfl rfl) (l_q (q_eql rfl rfl rfl) (l_q (q_pick_t (v := .bool _) rfl rfl rfl) (l_q (qmb rfl rfl) ?_))))
     have hk32 : (decide (((verdW (lg co er se sl rl)).2) = 11)) = true := by rw [hvW]; rfl
     refine l_part 71 rfl (fun _ => ?_) (fun hx => absurd (hk32.symm.trans hx) (by decide))
     refine l_q (qms rfl rfl) (l_q (q_len rfl Tryz.underlying25 rfl rfl) (l_q (qms rfl rfl) (l_q (q_len rfl Tryz.underlying25 rfl rfl) (l_q (q_add rfl rfl (by first | (rw [haW, hvW]; simp; done) | (rw [assign_f h45, verdW_f h45]; simp; done)) rfl) (l_q (q_eql rfl rfl rfl) (l_q (q_pick_t (v := .bool _) rfl rfl rfl) (l_q (qmb rfl rfl) ?_)))))))
     have hk33 : (decide (((((assignM (lg co er se sl rl)).1).length : Int) + (((verdW (lg co er se sl rl)).1).length : Int)) = 0)) = true := by rw [haW, hvW]; rfl
     refine l_part 79 rfl (fun _ => ?_) (fun hx => absurd (hk33.symm.trans hx) (by decide))
     refine l_o (o_call Tryz.call18 rfl (awake6_ret _) rfl ?_)
     rintro _ w34 ⟨rfl, hE34⟩
     replace hB := below_ext hB hE34 hsz
     replace hb1 := hb1.ext hE34
     replace hr11_0 := hr11_0.ext hE34
     replace hr15_0 := hr15_0.ext hE34
     replace hr27_0 := hr27_0.ext hE34
     replace hsz := Nat.le_trans hsz hE34.size
     refine l_q (q_pick_t (v := .bool _) rfl rfl rfl) (l_q (qab rfl rfl) (l_nil (r_forget [(4, .bool _)] ⟨rfl, trivial⟩ (fun e35 => (r_ret_ (vs := [.bool _]) rfl Tryz.func13 rfl (.nil _) ⟨rfl, trivial⟩ ?_)))))
     exact ⟨rfl, Ext.of_below hB⟩
    ·
     replace hc29 := dt (nf hc29)
     have hne : asgM (lg co er se sl rl) noB ≠ [] := by have := hc29; simpa using this
     obtain ⟨haW, hbm⟩ := asg_some hok hne
     have hvW := verd_some hok hne
     have hbi := best_is hok hne
     have hbl : (bestM (lg co er se sl rl)).length = rl.length := asg_len hbm
     refine r_skip (r_seq (r_seq (r_region' (l_q (qmi rfl rfl) (l_q (q_neq rfl rfl rfl) (l_nil ?_))))))
     have hk36 : (!decide ((faultM (lg co er se sl rl)) = 0)) = false := by rw [decide_eq_true hok]; rfl
     refine r_cond_f ((congrArg Value.bool hk36 : Value.bool _ = _)) (r_skip (r_seq (r_region' (l_q (qmi rfl rfl) (l_q (q_eql rfl rfl rfl) (l_q (qmb rfl rfl) ?_))))))
     have hk37 : (decide (((assignM (lg co er se sl rl)).2) = 0)) = true := by rw [haW]; rfl
     refine l_part 84 rfl (fun _ => ?_) (fun hx => absurd (hk37.symm.trans hx) (by decide))
     refine l_q (qmi rfl rfl) (l_q (q_eql rfl rfl rfl) (l_q (q_pick_t (v := .bool _) rfl rfl rfl) (l_q (qmb rfl rfl) ?_)))
     have hk38 : (decide (((verdW (lg co er se sl rl)).2) = 0)) = true := by rw [hvW]; rfl
     refine l_part 88 rfl (fun _ => ?_) (fun hx => absurd (hk38.symm.trans hx) (by decide))
     refine l_q (qms rfl rfl) (l_q (qms rfl rfl) (l_o (o_call Tryz.call24 rfl (same_ret _ _ ((assignM (lg co er se sl rl)).1) _ _ (bestI (asgM (lg co er se sl rl) noB) (asgM (lg co er se sl rl) noB).length) _ hr11_0 (by rw [haW]; show (bestM _).length ≤ _; omega) hr27_0 (by rw [hbi]; omega)) rfl ?_)))
     rintro _ w39 ⟨rfl, hE39⟩
     replace hB := below_ext hB hE39 hsz
     replace hb1 := hb1.ext hE39
     replace hr15_0 := hr15_0.ext hE39
     replace hsz := Nat.le_trans hsz hE39.size
     refine l_q (q_pick_t (v := .bool _) rfl rfl rfl) (l_q (qmb rfl rfl) ?_)
     have hk40 : (decide (((assignM (lg co er se sl rl)).1) = (bestI (asgM (lg co er se sl rl) noB) (asgM (lg co er se sl rl) noB).length))) = true := by rw [haW, hbi]; simp
     refine l_part 93 rfl (fun _ => ?_) (fun hx => absurd (hk40.symm.trans hx) (by decide))
     refine l_q (qms rfl rfl) (l_q (q_load_agg (n := 5) Tryz.isAgg29 Tryz.sizeOf29 rfl ((hb1.cells' (cs' := [_, _, _, _, _]) 0 5 rfl)) rfl rfl) (l_o (o_call Tryz.call48 rfl (rverd6_ret ka kc co er sa sc se ja jc sl ra rc rl _ (hlg.below hB) hbg hok hJ5 hR4 hne) rfl ?_)))
     rintro _ w41 ⟨a41_0, c41_0, rfl, ho41_0, hE41⟩
     replace ho41_0 := own_mono ho41_0 (show w.heap.size ≤ _ by omega)
     replace hB := below_ext hB hE41 hsz
     replace hr15_0 := hr15_0.ext hE41
     replace hsz := Nat.le_trans hsz hE41.size
     refine l_o (o_call Tryz.call24 rfl (same_ret _ _ ((verdW (lg co er se sl rl)).1) _ _ ((List.range rl.length).map (verdV (lg co er se sl rl))) _ hr15_0 (by rw [hvW, List.length_map, List.length_range]; show rl.length ≤ _; omega) (Row.of_owns ho41_0) (by rw [List.length_map, List.length_range]; omega)) rfl ?_)
     rintro _ w42 ⟨rfl, hE42⟩
     replace hB := below_ext hB hE42 hsz
     replace hsz := Nat.le_trans hsz hE42.size
     refine l_q (q_pick_t (v := .bool _) rfl rfl rfl) (l_q (qmb rfl rfl) ?_)
     have hk43 : (decide (((verdW (lg co er se sl rl)).1) = ((List.range rl.length).map (verdV (lg co er se sl rl))))) = true := by rw [hvW]; simp [lgR]
     refine l_part 99 rfl (fun _ => ?_) (fun hx => absurd (hk43.symm.trans hx) (by decide))
     refine l_o (o_call Tryz.call18 rfl (awake6_ret _) rfl ?_)
     rintro _ w44 ⟨rfl, hE44⟩
     replace hB := below_ext hB hE44 hsz
     replace hsz := Nat.le_trans hsz hE44.size
     refine l_q (q_pick_t (v := .bool _) rfl rfl rfl) (l_q (qab rfl rfl) (l_nil (r_forget [(4, .bool _)] ⟨rfl, trivial⟩ (fun e45 => (r_ret_ (vs := [.bool _]) rfl Tryz.func13 rfl (.nil _) ⟨rfl, trivial⟩ ?_)))))
     exact ⟨rfl, Ext.of_below hB⟩
   ·
    replace hc22 := df hc22
    have h45 : ¬ faultM (lg co er se sl rl) = 0 := hc22
    refine l_q (q_skip rfl) (l_q (q_skip rfl) (l_q (q_skip rfl) (l_q (q_pick_f (v := .bool _) rfl rfl rfl) (l_q (q_neq_bool Tryz.underlying4 rfl rfl rfl) (l_nil (r_forget [(2, .pointer _), (5, .slice _ _ _), (6, .int _ _), (7, .slice _ _ _), (8, .int _ _), (10, .int _ _), (50, .bool _)] ⟨rfl, rfl, rfl, rfl, rfl, rfl, rfl, trivial⟩ (fun e46 => ?_)))))))
    have hk47 : (!((provM (lg co er se sl rl) xs) == false)) = false := by rw [prov_f h45]; rfl
    refine r_cond_f ((congrArg Value.bool hk47 : Value.bool _ = _)) (r_skip (r_seq (r_region' (l_q (qas rfl rfl) (l_nil (r_seq (r_seq (r_region' (l_q (qmi rfl rfl) (l_q (q_eql rfl rfl rfl) (l_nil ?_)))))))))))
    have hk48 : (decide ((faultM (lg co er se sl rl)) = 0)) = false := decide_eq_false h45
    refine r_cond_f ((congrArg Value.bool hk48 : Value.bool _ = _)) (r_skip (r_seq (r_seq (r_region' (l_q (qmi rfl rfl) (l_q (q_neq rfl rfl rfl) (l_nil ?_)))))))
    have hk49 : (!decide ((faultM (lg co er se sl rl)) = 0)) = true := by rw [decide_eq_false h45]; rfl
    refine r_cond_t ((congrArg Value.bool hk49 : Value.bool _ = _)) (r_seq (r_region' (l_q (qmi rfl rfl) (l_q (qmi rfl rfl) (l_q (q_eql rfl rfl rfl) (l_q (qmb rfl rfl) ?_))))))
    have hk50 : (decide (((assignM (lg co er se sl rl)).2) = (faultM (lg co er se sl rl)))) = true := by rw [assign_f h45]; simp
    refine l_part 66 rfl (fun _ => ?_) (fun hx => absurd (hk50.symm.trans hx) (by decide))
    refine l_q (qmi rfl rfl) (l_q (qmi rfl rfl) (l_q (q_eql rfl rfl rfl) (l_q (q_pick_t (v := .bool _) rfl rfl rfl) (l_q (qmb rfl rfl) ?_))))
    have hk51 : (decide (((verdW (lg co er se sl rl)).2) = (faultM (lg co er se sl rl)))) = true := by rw [verdW_f h45]; simp
    refine l_part 71 rfl (fun _ => ?_) (fun hx => absurd (hk51.symm.trans hx) (by decide))
    refine l_q (qms rfl rfl) (l_q (q_len rfl Tryz.underlying25 rfl rfl) (l_q (qms rfl rfl) (l_q (q_len rfl Tryz.underlying25 rfl rfl) (l_q (q_add rfl rfl (by first | (rw [haW, hvW]; simp; done) | (rw [assign_f h45, verdW_f h45]; simp; done)) rfl) (l_q (q_eql rfl rfl rfl) (l_q (q_pick_t (v := .bool _) rfl rfl rfl) (l_q (qmb rfl rfl) ?_)))))))
    have hk52 : (decide (((((assignM (lg co er se sl rl)).1).length : Int) + (((verdW (lg co er se sl rl)).1).length : Int)) = 0)) = true := by rw [assign_f h45, verdW_f h45]; rfl
    refine l_part 79 rfl (fun _ => ?_) (fun hx => absurd (hk52.symm.trans hx) (by decide))
    refine l_o (o_call Tryz.call18 rfl (awake6_ret _) rfl ?_)
    rintro _ w53 ⟨rfl, hE53⟩
    replace hB := below_ext hB hE53 hsz
    replace hsz := Nat.le_trans hsz hE53.size
    refine l_q (q_pick_t (v := .bool _) rfl rfl rfl) (l_q (qab rfl rfl) (l_nil (r_forget [(4, .bool _)] ⟨rfl, trivial⟩ (fun e54 => (r_ret_ (vs := [.bool _]) rfl Tryz.func13 rfl (.nil _) ⟨rfl, trivial⟩ ?_)))))
    exact ⟨rfl, Ext.of_below hB⟩
end Go.Proofs.YtekkdhpgcilpdaaGreat
