/- Contracts. -/
import Derived.Test.YtekkdhpgcilpdaaGreatM15
set_option linter.unusedVariables false
set_option linter.unusedSimpArgs false
namespace Go.Proofs.YtekkdhpgcilpdaaGreat
open Go Go.RowKit Go.Gv Go.Fl


set_option maxHeartbeats 1000000 in
theorem maskVerdicts_ret (ka : Option Addr) (kc : Nat) (co : List Sg) (er : Int) (sa : Option Addr) (sc : Nat) (se : List Int) (ja : Option Addr) (jc : Nat) (sl : List SN) (ra : Option Addr) (rc : Nat) (rl : List RC) (w : World) (hlg : LgAt w ka kc co sa sc se ja jc sl ra rc rl) (hbg : LgBig co er se sl rl) : Ret Tryz.prog 6 [.agg ⟨[.slice ka co.length kc, vint er, .slice sa se.length sc, .slice ja sl.length jc, .slice ra rl.length rc]⟩] w (fun v w' => v = .bool true ∧ Ext w w') := by
 obtain ⟨⟨hcn, hcl⟩, hen, hsn, ⟨hjn, hjl⟩, hrn, hrl⟩ := id hbg
 have hB := Below.refl w.heap.size w
 have hsz : w.heap.size ≤ w.heap.size := Nat.le_refl _
 refine ret_of_runs (args := [_]) Tryz.func6 rfl (Nat.le_of_ble_eq_true rfl) (by kernel_rfl) ?_
 refine r_seq (r_region' ?_)
 refine l_o (o_box rfl rfl rfl ?_)
 intro b1 w1 hzl1 hzr1 _ hb1 hE1
 have hbs_b1 : w.heap.size ≤ b1 := Nat.le_trans hsz hzl1
 replace hB := below_ext hB hE1 hsz
 replace hsz := Nat.le_trans hsz hE1.size
 refine l_q (q_assign (v := .bool _) rfl rfl) ?_
 refine l_nil (r_seq (r_seq (r_region' ?_)))
 refine l_q (q_load_agg (n := 5) Tryz.isAgg29 Tryz.sizeOf29 rfl ((hb1.cells' (cs' := [_, _, _, _, _]) 0 5 rfl)) rfl rfl) ?_
 refine l_o (o_call Tryz.call34 rfl (ready6_ret ka kc co er sa sc se ja jc sl ra rc rl _ (hlg.below hB) hbg) rfl ?_)
 rintro _ w2 ⟨bb2, rfl, hrdy, hE2⟩
 replace hB := below_ext hB hE2 hsz
 replace hb1 := hb1.ext hE2
 replace hsz := Nat.le_trans hsz hE2.size
 refine l_q (q_not rfl rfl) ?_
 refine l_nil ?_
 refine r_cond rfl (fun hc3 => ?_) (fun hc3 => ?_)
 ·
  replace hc3 := nt hc3
  refine r_seq (r_region' ?_)
  refine l_o (o_call Tryz.call18 rfl (awake6_ret _) rfl ?_)
  rintro _ w4 ⟨rfl, hE4⟩
  replace hB := below_ext hB hE4 hsz
  replace hb1 := hb1.ext hE4
  replace hsz := Nat.le_trans hsz hE4.size
  refine l_q (q_assign (v := .bool _) rfl rfl) ?_
  refine l_nil ?_
  refine r_ret_ (vs := [.bool _]) rfl Tryz.func6 rfl (.nil _) ⟨rfl, trivial⟩ ?_
  exact ⟨rfl, Ext.of_below hB⟩
 ·
  replace hc3 := nf hc3
  have hok := hrdy (by simpa using hc3)
  refine r_skip (r_seq (r_region' ?_))
  refine l_q (q_load_agg (n := 5) Tryz.isAgg29 Tryz.sizeOf29 rfl ((hb1.cells' (cs' := [_, _, _, _, _]) 0 5 rfl)) rfl rfl) ?_
  refine l_o (o_call Tryz.call20 rfl (log6_ret ka kc co er sa sc se ja jc sl ra rc rl _ (hlg.below hB) hbg) rfl ?_)
  rintro _ w5 ⟨qka5, qkc5, qsa5, qsc5, qja5, qjc5, qsl5, qra5, qrc5, rfl, hlg5, hm5, hE5⟩
  replace hB := below_ext hB hE5 hsz
  replace hb1 := hb1.ext hE5
  replace hsz := Nat.le_trans hsz hE5.size
  have hv6 := verdicts6_ret qka5 qkc5 co er qsa5 qsc5 se qja5 qjc5 qsl5 qra5 qrc5 rl  w5 hlg5 (big_same hm5 hbg) 
  rw [lg_same hm5] at hv6
  refine l_o (o_call Tryz.call35 rfl (hv6) rfl ?_)
  rintro _ w7 ⟨a7_0, c7_0, rfl, hr7_0, hE7⟩
  replace hB := below_ext hB hE7 hsz
  replace hb1 := hb1.ext hE7
  replace hlg5 := hlg5.ext hE7
  replace hsz := Nat.le_trans hsz hE7.size
  refine l_q (q_move (v := .tuple _) rfl rfl) ?_
  refine l_q (q_extract (vs := [_, _]) (v := .slice _ _ _) rfl rfl rfl) ?_
  refine l_q (q_extract (vs := [_, _]) (v := .int _ _) rfl rfl rfl) ?_
  refine l_q (q_assign (v := .slice _ _ _) rfl rfl) ?_
  refine l_q (q_assign (v := .int _ _) rfl rfl) ?_
  refine l_nil ?_
  refine r_forget [(1, .pointer _), (3, .slice _ _ _), (4, .int _ _)] ⟨rfl, rfl, rfl, trivial⟩ (fun e8 => ?_)
  refine r_seq (r_region' ?_)
  refine l_q (q_load_agg (n := 5) Tryz.isAgg29 Tryz.sizeOf29 rfl ((hb1.cells' (cs' := [_, _, _, _, _]) 0 5 rfl)) rfl rfl) ?_
  refine l_o (o_call Tryz.call20 rfl (log6_ret ka kc co er sa sc se ja jc sl ra rc rl _ (hlg.below hB) hbg) rfl ?_)
  rintro _ w9 ⟨qka9, qkc9, qsa9, qsc9, qja9, qjc9, qsl9, qra9, qrc9, rfl, hlg9, hm9, hE9⟩
  replace hB := below_ext hB hE9 hsz
  replace hb1 := hb1.ext hE9
  replace hlg5 := hlg5.ext hE9
  replace hr7_0 := hr7_0.ext hE9
  replace hsz := Nat.le_trans hsz hE9.size
  have hv10 := assign6_ret qka9 qkc9 co er qsa9 qsc9 se qja9 qjc9 qsl9 qra9 qrc9 rl  w9 hlg9 (big_same hm9 hbg) 
  rw [lg_same hm9] at hv10
  refine l_o (o_call Tryz.call36 rfl (hv10) rfl ?_)
  rintro _ w11 ⟨a11_0, c11_0, rfl, hr11_0, hE11⟩
  replace hB := below_ext hB hE11 hsz
  replace hb1 := hb1.ext hE11
  replace hlg5 := hlg5.ext hE11
  replace hr7_0 := hr7_0.ext hE11
  replace hlg9 := hlg9.ext hE11
  replace hsz := Nat.le_trans hsz hE11.size
  refine l_q (q_move (v := .tuple _) rfl rfl) ?_
  refine l_q (q_extract (vs := [_, _]) (v := .slice _ _ _) rfl rfl rfl) ?_
  refine l_q (q_extract (vs := [_, _]) (v := .int _ _) rfl rfl rfl) ?_
  refine l_q (q_assign (v := .slice _ _ _) rfl rfl) ?_
  refine l_q (q_assign (v := .int _ _) rfl rfl) ?_
  refine l_nil (r_seq (r_seq (r_region' ?_)))
  refine l_q (q_move (v := .int _ _) rfl rfl) ?_
  refine l_q (q_neq rfl rfl rfl) ?_
  refine l_nil ?_
  refine r_cond rfl (fun hc12 => ?_) (fun hc12 => ?_)
  ·
   replace hc12 := df (nt hc12)
   obtain ⟨hvW, haW⟩ := vd_err hok (by have := hc12; simpa using this)
   refine r_seq (r_region' ?_)
   refine l_q (q_move (v := .int _ _) rfl rfl) ?_
   refine l_q (q_eql rfl rfl rfl) ?_
   refine l_q (q_move (v := .bool _) rfl rfl) ?_
   have hk13 : (decide (((verdW (lg co er se sl rl)).2) = 11)) = true := by rw [hvW]; rfl
   refine l_part 32 rfl (fun _ => ?_) (fun hx => absurd (hk13.symm.trans hx) (by decide))
   refine l_q (q_move (v := .int _ _) rfl rfl) ?_
   refine l_q (q_move (v := .int _ _) rfl rfl) ?_
   refine l_q (q_eql rfl rfl rfl) ?_
   refine l_q (q_pick_t (v := .bool _) rfl rfl rfl) ?_
   refine l_q (q_move (v := .bool _) rfl rfl) ?_
   have hk14 : (decide (((assignM (lg co er se sl rl)).2) = ((verdW (lg co er se sl rl)).2))) = true := by rw [hvW, haW]; rfl
   refine l_part 37 rfl (fun _ => ?_) (fun hx => absurd (hk14.symm.trans hx) (by decide))
   refine l_q (q_move (v := .slice _ _ _) rfl rfl) ?_
   refine l_q (q_len rfl Tryz.underlying25 rfl rfl) ?_
   refine l_q (q_eql rfl rfl rfl) ?_
   refine l_q (q_pick_t (v := .bool _) rfl rfl rfl) ?_
   refine l_q (q_move (v := .bool _) rfl rfl) ?_
   have hk15 : (decide ((((verdW (lg co er se sl rl)).1).length : Int) = 0)) = true := by rw [hvW]; rfl
   refine l_part 42 rfl (fun _ => ?_) (fun hx => absurd (hk15.symm.trans hx) (by decide))
   refine l_o (o_call Tryz.call18 rfl (awake6_ret _) rfl ?_)
   rintro _ w16 ⟨rfl, hE16⟩
   replace hB := below_ext hB hE16 hsz
   replace hb1 := hb1.ext hE16
   replace hlg5 := hlg5.ext hE16
   replace hr7_0 := hr7_0.ext hE16
   replace hlg9 := hlg9.ext hE16
   replace hr11_0 := hr11_0.ext hE16
   replace hsz := Nat.le_trans hsz hE16.size
   refine l_q (q_pick_t (v := .bool _) rfl rfl rfl) ?_
   refine l_q (q_assign (v := .bool _) rfl rfl) ?_
   refine l_nil ?_
   refine r_forget [(2, .bool _)] ⟨rfl, trivial⟩ (fun e17 => ?_)
   refine r_ret_ (vs := [.bool _]) rfl Tryz.func6 rfl (.nil _) ⟨rfl, trivial⟩ ?_
   exact ⟨rfl, Ext.of_below hB⟩
  ·
   replace hc12 := dt (nf hc12)
   obtain ⟨hvW, hne, hall⟩ := vd_ok hok (by have := hc12; simpa using this)
   obtain ⟨haW, hbm⟩ := asg_some hok hne
   refine r_skip (r_seq (r_seq (r_region' ?_)))
   refine l_q (q_move (v := .int _ _) rfl rfl) ?_
   refine l_q (q_neq rfl rfl rfl) ?_
   refine l_q (q_move (v := .bool _) rfl rfl) ?_
   have hk18 : (!decide (((assignM (lg co er se sl rl)).2) = 0)) = false := by rw [haW]; rfl
   refine l_part 47 rfl (fun hx => absurd (hk18.symm.trans hx) (by decide)) (fun _ => ?_)
   refine l_q (q_move (v := .slice _ _ _) rfl rfl) ?_
   refine l_q (q_len rfl Tryz.underlying25 rfl rfl) ?_
   refine l_q (q_fieldAddr (o' := 4) rfl fld29_4 rfl) ?_
   refine l_q (q_load Tryz.isAgg27 rfl ((hb1.has (o := 4) rfl)) rfl) ?_
   refine l_q (q_len rfl Tryz.underlying27 rfl rfl) ?_
   refine l_q (q_neq rfl rfl rfl) ?_
   refine l_q (q_pick_f (v := .bool _) rfl rfl rfl) ?_
   refine l_q (q_move (v := .bool _) rfl rfl) ?_
   have hk19 : (!decide ((((verdW (lg co er se sl rl)).1).length : Int) = (rl.length : Int))) = false := by rw [hvW]; simp [lgR]
   refine l_part 55 rfl (fun hx => absurd (hk19.symm.trans hx) (by decide)) (fun _ => ?_)
   refine l_q (q_move (v := .slice _ _ _) rfl rfl) ?_
   refine l_q (q_len rfl Tryz.underlying25 rfl rfl) ?_
   refine l_q (q_move (v := .slice _ _ _) rfl rfl) ?_
   refine l_q (q_len rfl Tryz.underlying25 rfl rfl) ?_
   refine l_q (q_neq rfl rfl rfl) ?_
   refine l_q (q_pick_f (v := .bool _) rfl rfl rfl) ?_
   refine l_nil ?_
   refine r_forget [(1, .pointer _), (3, .slice _ _ _), (5, .slice _ _ _), (61, .bool _)] ⟨rfl, rfl, rfl, rfl, trivial⟩ (fun e20 => ?_)
   have hk21 : (!decide ((((assignM (lg co er se sl rl)).1).length : Int) = (((verdW (lg co er se sl rl)).1).length : Int))) = false := by rw [hvW, haW]; simp [asg_len hbm]
   refine r_cond_f ((congrArg Value.bool hk21 : Value.bool _ = _)) ?_
   refine r_skip (r_seq (r_seq (r_region' ?_)))
   refine l_q (q_assign (v := .int _ _) rfl rfl) ?_
   refine l_nil (r_block ?_)
   refine r_rounds (α := Nat) (fun c e wl => Knows e [(1, ptr b1 0), (3, .slice a7_0 (((verdW (lg co er se sl rl)).1).length) c7_0), (5, .slice a11_0 (((assignM (lg co er se sl rl)).1).length) c11_0), (7, vint (c : Int))] ∧ (c ≤ (verdW (lg co er se sl rl)).1.length) ∧ (Blk wl b1 [.slice ka co.length kc, vint er, .slice sa se.length sc, .slice ja sl.length jc, .slice ra rl.length rc]) ∧ (LgAt wl qka5 qkc5 co qsa5 qsc5 se qja5 qjc5 qsl5 qra5 qrc5 rl) ∧ (Row wl a7_0 (((verdW (lg co er se sl rl)).1).length) c7_0 1 (((verdW (lg co er se sl rl)).1).map vint)) ∧ (LgAt wl qka9 qkc9 co qsa9 qsc9 se qja9 qjc9 qsl9 qra9 qrc9 rl) ∧ (Row wl a11_0 (((assignM (lg co er se sl rl)).1).length) c11_0 1 (((assignM (lg co er se sl rl)).1).map vint)) ∧ (w.heap.size ≤ wl.heap.size) ∧ (Below w.heap.size w wl)) (fun c => (verdW (lg co er se sl rl)).1.length - c) 0 ?_ ?_
   ·
    exact ⟨⟨rfl, rfl, rfl, rfl, trivial⟩, (Nat.zero_le _), hb1, hlg5, hr7_0, hlg9, hr11_0, hsz, hB⟩
   ·
    rintro c el22 wl22 ⟨hkn, hkc, hb1, hlg5, hr7_0, hlg9, hr11_0, hsz, hB⟩ ih22
    obtain ⟨e22, rfl⟩ := knows_env hkn
    refine r_seq (r_seq (r_region' ?_))
    refine l_q (q_move (v := .int _ _) rfl rfl) ?_
    refine l_q (q_move (v := .slice _ _ _) rfl rfl) ?_
    refine l_q (q_len rfl Tryz.underlying25 rfl rfl) ?_
    refine l_q (q_lss rfl rfl rfl) ?_
    refine l_nil ?_
    refine r_cond rfl (fun hc23 => ?_) (fun hc23 => ?_)
    ·
     replace hc23 := dt hc23
     refine r_skip (r_seq (r_block (r_seq (r_region' ?_))))
     refine l_q (q_load_agg (n := 5) Tryz.isAgg29 Tryz.sizeOf29 rfl ((hb1.cells' (cs' := [_, _, _, _, _]) 0 5 rfl)) rfl rfl) ?_
     refine l_o (o_call Tryz.call20 rfl (log6_ret ka kc co er sa sc se ja jc sl ra rc rl _ (hlg.below hB) hbg) rfl ?_)
     rintro _ w24 ⟨qka24, qkc24, qsa24, qsc24, qja24, qjc24, qsl24, qra24, qrc24, rfl, hlg24, hm24, hE24⟩
     replace hB := below_ext hB hE24 hsz
     replace hb1 := hb1.ext hE24
     replace hlg5 := hlg5.ext hE24
     replace hr7_0 := hr7_0.ext hE24
     replace hlg9 := hlg9.ext hE24
     replace hr11_0 := hr11_0.ext hE24
     replace hsz := Nat.le_trans hsz hE24.size
     refine l_q (q_move (v := .int _ _) rfl rfl) ?_
     have hv25 := own6_ret qka24 qkc24 co er qsa24 qsc24 se qja24 qjc24 qsl24 qra24 qrc24 rl (c : Int) w24 hlg24 (big_same hm24 hbg) 
     rw [lg_same hm24] at hv25
     refine l_o (o_call Tryz.call21 rfl (hv25) rfl ?_)
     rintro _ w26 ⟨a26_0, c26_0, rfl, hr26_0, hE26⟩
     replace hB := below_ext hB hE26 hsz
     replace hb1 := hb1.ext hE26
     replace hlg5 := hlg5.ext hE26
     replace hr7_0 := hr7_0.ext hE26
     replace hlg9 := hlg9.ext hE26
     replace hr11_0 := hr11_0.ext hE26
     replace hsz := Nat.le_trans hsz hE26.size
     refine l_q (q_move (v := .tuple _) rfl rfl) ?_
     refine l_q (q_extract (vs := [_, _]) (v := .slice _ _ _) rfl rfl rfl) ?_
     refine l_q (q_extract (vs := [_, _]) (v := .int _ _) rfl rfl rfl) ?_
     refine l_q (q_assign (v := .slice _ _ _) rfl rfl) ?_
     refine l_q (q_assign (v := .int _ _) rfl rfl) ?_
     refine l_nil ?_
     refine r_forget [(1, .pointer _), (3, .slice _ _ _), (5, .slice _ _ _), (7, .int _ _), (8, .slice _ _ _), (9, .int _ _)] ⟨rfl, rfl, rfl, rfl, rfl, rfl, trivial⟩ (fun e27 => ?_)
     refine r_seq (r_region' ?_)
     refine l_q (q_load_agg (n := 5) Tryz.isAgg29 Tryz.sizeOf29 rfl ((hb1.cells' (cs' := [_, _, _, _, _]) 0 5 rfl)) rfl rfl) ?_
     refine l_o (o_call Tryz.call20 rfl (log6_ret ka kc co er sa sc se ja jc sl ra rc rl _ (hlg.below hB) hbg) rfl ?_)
     rintro _ w28 ⟨qka28, qkc28, qsa28, qsc28, qja28, qjc28, qsl28, qra28, qrc28, rfl, hlg28, hm28, hE28⟩
     replace hB := below_ext hB hE28 hsz
     replace hb1 := hb1.ext hE28
     replace hlg5 := hlg5.ext hE28
     replace hr7_0 := hr7_0.ext hE28
     replace hlg9 := hlg9.ext hE28
     replace hr11_0 := hr11_0.ext hE28
     replace hr26_0 := hr26_0.ext hE28
     replace hsz := Nat.le_trans hsz hE28.size
     refine l_q (q_move (v := .int _ _) rfl rfl) ?_
     have hv29 := mMasked_ret qka28 qkc28 co er qsa28 qsc28 se qja28 qjc28 qsl28 qra28 qrc28 rl (c : Int) w28 hlg28 (big_same hm28 hbg) 
     rw [lg_same hm28] at hv29
     refine l_o (o_call Tryz.call27 rfl (hv29) rfl ?_)
     rintro _ w30 ⟨a30_0, c30_0, rfl, hr30_0, hE30⟩
     replace hB := below_ext hB hE30 hsz
     replace hb1 := hb1.ext hE30
     replace hlg5 := hlg5.ext hE30
     replace hr7_0 := hr7_0.ext hE30
     replace hlg9 := hlg9.ext hE30
     replace hr11_0 := hr11_0.ext hE30
     replace hr26_0 := hr26_0.ext hE30
     replace hsz := Nat.le_trans hsz hE30.size
     refine l_q (q_move (v := .tuple _) rfl rfl) ?_
     refine l_q (q_extract (vs := [_, _]) (v := .slice _ _ _) rfl rfl rfl) ?_
     refine l_q (q_extract (vs := [_, _]) (v := .int _ _) rfl rfl rfl) ?_
     refine l_q (q_assign (v := .slice _ _ _) rfl rfl) ?_
     refine l_q (q_assign (v := .int _ _) rfl rfl) ?_
     refine l_nil (r_seq (r_seq ?_))
     have hcR : c < rl.length := by have := congrArg (fun x => x.1.length) hvW; simp only [List.length_map, List.length_range] at this; rw [lgR] at this; omega
     have hvr := verd_getD hvW (r := c) hcR
     have hov := hall c hcR
     have hon : ownM (lg co er se sl rl) (c : Int) = (ownL (lg co er se sl rl) (rl.getD c rcd0), 0) := own_C hok ⟨by omega, by rw [lgR]; omega⟩
     have hmk : (maskedM (lg co er se sl rl) (c : Int)).2 = if falB (lg co er se sl rl) (rl.getD c rcd0) = true then 0 else 7 := masked_2 hok (r := c) hcR
     have hal : (bestM (lg co er se sl rl)).length = rl.length := asg_len hbm
     have hvl : (verdW (lg co er se sl rl)).1.length = rl.length := by rw [hvW]; simp [lgR]
     have hal2 : (assignM (lg co er se sl rl)).1.length = rl.length := by rw [haW]; exact hal
     refine r_region' ?_
     refine l_q (q_move (v := .int _ _) rfl rfl) ?_
     refine l_q (q_neq rfl rfl rfl) ?_
     refine l_q (q_move (v := .bool _) rfl rfl) ?_
     have hk31 : (!decide (((ownM (lg co er se sl rl) (c : Int)).2) = 0)) = false := by rw [hon]; rfl
     refine l_part 84 rfl (fun hx => absurd (hk31.symm.trans hx) (by decide)) (fun _ => ?_)
     refine l_q (q_move (v := .int _ _) rfl rfl) ?_
     refine l_q (q_neq rfl rfl rfl) ?_
     refine l_q (q_move (v := .bool _) rfl rfl) ?_
     refine l_part 87 rfl (fun hc32 => ?_) (fun hc32 => ?_)
     ·
      replace hc32 := df (nt hc32)
      have hfb : falB (lg co er se sl rl) (rl.getD c rcd0) = false := by have h := hc32; rw [hmk] at h; cases hq : falB (lg co er se sl rl) (rl.getD c rcd0) with | false => rfl | true => (rw [hq, if_pos rfl] at h; exact absurd rfl h)
      refine l_q (q_move (v := .int _ _) rfl rfl) ?_
      refine l_q (q_neq rfl rfl rfl) ?_
      refine l_q (q_pick_t (v := .bool _) rfl rfl rfl) ?_
      refine l_q (q_pick_f (v := .bool _) rfl rfl rfl) ?_
      refine l_q (q_move (v := .bool _) rfl rfl) ?_
      have hk33 : (!decide (((maskedM (lg co er se sl rl) (c : Int)).2) = 7)) = false := by rw [hmk, if_neg (by rw [hfb]; decide)]; rfl
      refine l_part 92 rfl (fun hx => absurd (hk33.symm.trans hx) (by decide)) (fun _ => ?_)
      refine l_q (q_move (v := .slice _ _ _) rfl rfl) ?_
      refine l_q (q_len rfl Tryz.underlying25 rfl rfl) ?_
      refine l_q (q_eql rfl rfl rfl) ?_
      refine l_q (q_move (v := .bool _) rfl rfl) ?_
      refine l_part 96 rfl (fun hc34 => ?_) (fun hc34 => ?_)
      ·
       replace hc34 := dt hc34
       have hnil : ownL (lg co er se sl rl) (rl.getD c rcd0) = [] := by have h := hc34; rw [hon] at h; have h2 : ((ownL (lg co er se sl rl) (rl.getD c rcd0)).length : Int) = 0 := h; exact List.length_eq_zero_iff.1 (by omega)
       refine l_q (q_move (v := .slice _ _ _) rfl rfl) ?_
       refine l_q (q_move (v := .int _ _) rfl rfl) ?_
       obtain ⟨b35, o35, ha35, hh35⟩ := hr7_0.at1 c (((verdW (lg co er se sl rl)).1).getD c 0) (getD_some (by omega))
       refine l_q (q_indexAddr1 Tryz.underlying25 Tryz.sizeOf3 rfl ha35 rfl (by omega) rfl) ?_
       refine l_q (q_load Tryz.isAgg3 rfl (hh35) rfl) ?_
       refine l_q (q_neq rfl rfl rfl) ?_
       refine l_q (q_pick_t (v := .bool _) rfl rfl rfl) ?_
       refine l_q (q_pick_f (v := .bool _) rfl rfl rfl) ?_
       refine l_q (q_move (v := .bool _) rfl rfl) ?_
       have hk36 : (!decide ((((verdW (lg co er se sl rl)).1).getD c 0) = 2)) = false := by rw [hvr, verd_2' hov (own_nil hcR hnil)]; rfl
       refine l_part 104 rfl (fun hx => absurd (hk36.symm.trans hx) (by decide)) (fun _ => ?_)
       refine l_q (q_move (v := .int _ _) rfl rfl) ?_
       refine l_q (q_neq rfl rfl rfl) ?_
       refine l_q (q_move (v := .bool _) rfl rfl) ?_
       have hk37 : (!decide (((maskedM (lg co er se sl rl) (c : Int)).2) = 0)) = true := by rw [hmk, if_neg (by rw [hfb]; decide)]; rfl
       refine l_part 107 rfl (fun _ => ?_) (fun hx => absurd (hk37.symm.trans hx) (by decide))
       refine l_q (q_move (v := .slice _ _ _) rfl rfl) ?_
       refine l_q (q_move (v := .int _ _) rfl rfl) ?_
       obtain ⟨b38, o38, ha38, hh38⟩ := hr7_0.at1 c (((verdW (lg co er se sl rl)).1).getD c 0) (getD_some (by omega))
       refine l_q (q_indexAddr1 Tryz.underlying25 Tryz.sizeOf3 rfl ha38 rfl (by omega) rfl) ?_
       refine l_q (q_load Tryz.isAgg3 rfl (hh38) rfl) ?_
       refine l_q (q_neq rfl rfl rfl) ?_
       refine l_q (q_pick_t (v := .bool _) rfl rfl rfl) ?_
       refine l_q (q_pick_f (v := .bool _) rfl rfl rfl) ?_
       refine l_nil ?_
       refine r_forget [(1, .pointer _), (3, .slice _ _ _), (5, .slice _ _ _), (7, .int _ _), (8, .slice _ _ _), (11, .int _ _), (114, .bool _)] ⟨rfl, rfl, rfl, rfl, rfl, rfl, rfl, trivial⟩ (fun e39 => ?_)
       have hk40 : (!decide ((((verdW (lg co er se sl rl)).1).getD c 0) = 1)) = false := by rw [hvr, verd_1' hov (fal_nil hcR hfb)]; rfl
       refine r_cond_f ((congrArg Value.bool hk40 : Value.bool _ = _)) ?_
       refine r_skip (r_seq (r_region' ?_))
       refine l_q (q_move (v := .slice _ _ _) rfl rfl) ?_
       refine l_q (q_move (v := .int _ _) rfl rfl) ?_
       obtain ⟨b41, o41, ha41, hh41⟩ := hr11_0.at1 c (((assignM (lg co er se sl rl)).1).getD c 0) (getD_some (by omega))
       refine l_q (q_indexAddr1 Tryz.underlying25 Tryz.sizeOf3 rfl ha41 rfl (by omega) rfl) ?_
       refine l_q (q_load Tryz.isAgg3 rfl (hh41) rfl) ?_
       refine l_q (q_lss rfl rfl rfl) ?_
       refine l_q (q_move (v := .bool _) rfl rfl) ?_
       refine l_part 120 rfl (fun hc42 => ?_) (fun hc42 => ?_)
       ·
        replace hc42 := dt hc42
        have hf2 : falB (lg co er se sl rl) (rl.getD c rcd0) = true ∧ falV (lg co er se sl rl) c = true := asg_fal hbm hcR (by have h := hc42; rw [haW] at h; exact h)
        refine l_q (q_move (v := .slice _ _ _) rfl rfl) ?_
        refine l_q (q_move (v := .int _ _) rfl rfl) ?_
        obtain ⟨b43, o43, ha43, hh43⟩ := hr7_0.at1 c (((verdW (lg co er se sl rl)).1).getD c 0) (getD_some (by omega))
        refine l_q (q_indexAddr1 Tryz.underlying25 Tryz.sizeOf3 rfl ha43 rfl (by omega) rfl) ?_
        refine l_q (q_load Tryz.isAgg3 rfl (hh43) rfl) ?_
        refine l_q (q_eql rfl rfl rfl) ?_
        refine l_q (q_move (v := .bool _) rfl rfl) ?_
        have hk44 : (decide ((((verdW (lg co er se sl rl)).1).getD c 0) = 1)) = false := by rw [hvr, decide_eq_false (verd_n1 hf2.2)]
        refine l_part 126 rfl (fun hx => absurd (hk44.symm.trans hx) (by decide)) (fun _ => ?_)
        refine l_q (q_move (v := .int _ _) rfl rfl) ?_
        refine l_q (q_neq rfl rfl rfl) ?_
        refine l_q (q_pick_f (v := .bool _) rfl rfl rfl) ?_
        refine l_q (q_pick_t (v := .bool _) rfl rfl rfl) ?_
        refine l_q (q_move (v := .bool _) rfl rfl) ?_
        have hk45 : (!decide (((maskedM (lg co er se sl rl) (c : Int)).2) = 0)) = false := by rw [hmk, if_pos hf2.1]; rfl
        refine l_part 131 rfl (fun hx => absurd (hk45.symm.trans hx) (by decide)) (fun _ => ?_)
        refine l_q (q_move (v := .slice _ _ _) rfl rfl) ?_
        refine l_q (q_move (v := .int _ _) rfl rfl) ?_
        obtain ⟨b46, o46, ha46, hh46⟩ := hr11_0.at1 c (((assignM (lg co er se sl rl)).1).getD c 0) (getD_some (by omega))
        refine l_q (q_indexAddr1 Tryz.underlying25 Tryz.sizeOf3 rfl ha46 rfl (by omega) rfl) ?_
        refine l_q (q_load Tryz.isAgg3 rfl (hh46) rfl) ?_
        refine l_q (q_geq rfl rfl rfl) ?_
        refine l_q (q_move (v := .bool _) rfl rfl) ?_
        have hk47 : (decide (0 ≤ (((assignM (lg co er se sl rl)).1).getD c 0))) = false := by rw [decide_eq_false (by omega)]
        refine l_part 137 rfl (fun hx => absurd (hk47.symm.trans hx) (by decide)) (fun _ => ?_)
        refine l_q (q_skip rfl) ?_
        refine l_q (q_skip rfl) ?_
        refine l_q (q_skip rfl) ?_
        refine l_q (q_skip rfl) ?_
        refine l_q (q_skip rfl) ?_
        refine l_q (q_skip rfl) ?_
        refine l_q (q_skip rfl) ?_
        refine l_q (q_skip rfl) ?_
        refine l_q (q_skip rfl) ?_
        refine l_q (q_skip rfl) ?_
        refine l_q (q_skip rfl) ?_
        refine l_q (q_skip rfl) ?_
        refine l_q (q_skip rfl) ?_
        refine l_q (q_skip rfl) ?_
        refine l_q (q_pick_f (v := .bool _) rfl rfl rfl) ?_
        refine l_q (q_pick_f (v := .bool _) rfl rfl rfl) ?_
        refine l_nil ?_
        refine r_forget [(1, .pointer _), (3, .slice _ _ _), (5, .slice _ _ _), (7, .int _ _), (153, .bool _)] ⟨rfl, rfl, rfl, rfl, rfl, trivial⟩ (fun e48 => ?_)
        refine r_cond_f rfl ?_
        refine r_skip (r_inBlock (r_region' ?_))
        refine l_q (q_move (v := .int _ _) rfl rfl) ?_
        refine l_q (q_add rfl rfl (by omega) rfl) ?_
        refine l_q (q_assign (v := .int _ _) rfl rfl) ?_
        refine l_nil ?_
        exact ih22 (c + 1) _ _ ⟨⟨rfl, rfl, rfl, (vint_eq (by omega)), trivial⟩, (by omega), hb1, hlg5, hr7_0, hlg9, hr11_0, hsz, hB⟩ (by first | omega | (dsimp only; omega))
       ·
        replace hc42 := dlt hc42
        have ho2 : hasI (ownL (lg co er se sl rl) (rl.getD c rcd0)) ((bestM (lg co er se sl rl)).getD c 0) = true ∧ ownV (lg co er se sl rl) c = true := asg_own hbm hcR (by have h := hc42; rw [haW] at h; have h2 : ¬ (bestM (lg co er se sl rl)).getD c 0 < 0 := (by first | exact h | exact Int.not_lt.2 h); omega)
        refine l_q (q_skip rfl) ?_
        refine l_q (q_skip rfl) ?_
        refine l_q (q_skip rfl) ?_
        refine l_q (q_skip rfl) ?_
        refine l_q (q_skip rfl) ?_
        refine l_q (q_skip rfl) ?_
        refine l_q (q_skip rfl) ?_
        refine l_q (q_skip rfl) ?_
        refine l_q (q_skip rfl) ?_
        refine l_q (q_pick_f (v := .bool _) rfl rfl rfl) ?_
        refine l_q (q_move (v := .bool _) rfl rfl) ?_
        refine l_q (q_move (v := .slice _ _ _) rfl rfl) ?_
        refine l_q (q_move (v := .int _ _) rfl rfl) ?_
        obtain ⟨b49, o49, ha49, hh49⟩ := hr11_0.at1 c (((assignM (lg co er se sl rl)).1).getD c 0) (getD_some (by omega))
        refine l_q (q_indexAddr1 Tryz.underlying25 Tryz.sizeOf3 rfl ha49 rfl (by omega) rfl) ?_
        refine l_q (q_load Tryz.isAgg3 rfl (hh49) rfl) ?_
        refine l_q (q_geq rfl rfl rfl) ?_
        refine l_q (q_move (v := .bool _) rfl rfl) ?_
        have hk50 : (decide (0 ≤ (((assignM (lg co er se sl rl)).1).getD c 0))) = true := by rw [decide_eq_true (by omega)]
        refine l_part 137 rfl (fun _ => ?_) (fun hx => absurd (hk50.symm.trans hx) (by decide))
        refine l_q (q_move (v := .slice _ _ _) rfl rfl) ?_
        refine l_q (q_move (v := .int _ _) rfl rfl) ?_
        obtain ⟨b51, o51, ha51, hh51⟩ := hr7_0.at1 c (((verdW (lg co er se sl rl)).1).getD c 0) (getD_some (by omega))
        refine l_q (q_indexAddr1 Tryz.underlying25 Tryz.sizeOf3 rfl ha51 rfl (by omega) rfl) ?_
        refine l_q (q_load Tryz.isAgg3 rfl (hh51) rfl) ?_
        refine l_q (q_eql rfl rfl rfl) ?_
        refine l_q (q_move (v := .bool _) rfl rfl) ?_
        have hk52 : (decide ((((verdW (lg co er se sl rl)).1).getD c 0) = 2)) = false := by rw [hvr, decide_eq_false (verd_n2 ho2.2)]
        refine l_part 143 rfl (fun hx => absurd (hk52.symm.trans hx) (by decide)) (fun _ => ?_)
        refine l_q (q_move (v := .slice _ _ _) rfl rfl) ?_
        refine l_q (q_move (v := .slice _ _ _) rfl rfl) ?_
        refine l_q (q_move (v := .int _ _) rfl rfl) ?_
        obtain ⟨b53, o53, ha53, hh53⟩ := hr11_0.at1 c (((assignM (lg co er se sl rl)).1).getD c 0) (getD_some (by omega))
        refine l_q (q_indexAddr1 Tryz.underlying25 Tryz.sizeOf3 rfl ha53 rfl (by omega) rfl) ?_
        refine l_q (q_load Tryz.isAgg3 rfl (hh53) rfl) ?_
        refine l_o (o_call Tryz.call37 rfl (has6_ret _ _ ((ownM (lg co er se sl rl) (c : Int)).1) _ _ hr26_0 (by rw [hon]; exact own_small hok)) rfl ?_)
        rintro _ w54 ⟨rfl, hE54⟩
        replace hB := below_ext hB hE54 hsz
        replace hb1 := hb1.ext hE54
        replace hlg5 := hlg5.ext hE54
        replace hr7_0 := hr7_0.ext hE54
        replace hlg9 := hlg9.ext hE54
        replace hr11_0 := hr11_0.ext hE54
        replace hr26_0 := hr26_0.ext hE54
        replace hsz := Nat.le_trans hsz hE54.size
        refine l_q (q_not rfl rfl) ?_
        refine l_q (q_pick_f (v := .bool _) rfl rfl rfl) ?_
        refine l_q (q_pick_t (v := .bool _) rfl rfl rfl) ?_
        refine l_q (q_pick_f (v := .bool _) rfl rfl rfl) ?_
        refine l_nil ?_
        refine r_forget [(1, .pointer _), (3, .slice _ _ _), (5, .slice _ _ _), (7, .int _ _), (153, .bool _)] ⟨rfl, rfl, rfl, rfl, rfl, trivial⟩ (fun e55 => ?_)
        have hk56 : (!(hasI ((ownM (lg co er se sl rl) (c : Int)).1) (((assignM (lg co er se sl rl)).1).getD c 0))) = false := by rw [hon, haW]; show (!hasI (ownL (lg co er se sl rl) (rl.getD c rcd0)) ((bestM (lg co er se sl rl)).getD c 0)) = false; rw [ho2.1]; rfl
        refine r_cond_f ((congrArg Value.bool hk56 : Value.bool _ = _)) ?_
        refine r_skip (r_inBlock (r_region' ?_))
        refine l_q (q_move (v := .int _ _) rfl rfl) ?_
        refine l_q (q_add rfl rfl (by omega) rfl) ?_
        refine l_q (q_assign (v := .int _ _) rfl rfl) ?_
        refine l_nil ?_
        exact ih22 (c + 1) _ _ ⟨⟨rfl, rfl, rfl, (vint_eq (by omega)), trivial⟩, (by omega), hb1, hlg5, hr7_0, hlg9, hr11_0, hsz, hB⟩ (by first | omega | (dsimp only; omega))
      ·
       replace hc34 := df hc34
       refine l_q (q_skip rfl) ?_
       refine l_q (q_skip rfl) ?_
       refine l_q (q_skip rfl) ?_
       refine l_q (q_skip rfl) ?_
       refine l_q (q_skip rfl) ?_
       refine l_q (q_pick_f (v := .bool _) rfl rfl rfl) ?_
       refine l_q (q_pick_f (v := .bool _) rfl rfl rfl) ?_
       refine l_q (q_move (v := .bool _) rfl rfl) ?_
       refine l_q (q_move (v := .int _ _) rfl rfl) ?_
       refine l_q (q_neq rfl rfl rfl) ?_
       refine l_q (q_move (v := .bool _) rfl rfl) ?_
       have hk57 : (!decide (((maskedM (lg co er se sl rl) (c : Int)).2) = 0)) = true := by rw [hmk, if_neg (by rw [hfb]; decide)]; rfl
       refine l_part 107 rfl (fun _ => ?_) (fun hx => absurd (hk57.symm.trans hx) (by decide))
       refine l_q (q_move (v := .slice _ _ _) rfl rfl) ?_
       refine l_q (q_move (v := .int _ _) rfl rfl) ?_
       obtain ⟨b58, o58, ha58, hh58⟩ := hr7_0.at1 c (((verdW (lg co er se sl rl)).1).getD c 0) (getD_some (by omega))
       refine l_q (q_indexAddr1 Tryz.underlying25 Tryz.sizeOf3 rfl ha58 rfl (by omega) rfl) ?_
       refine l_q (q_load Tryz.isAgg3 rfl (hh58) rfl) ?_
       refine l_q (q_neq rfl rfl rfl) ?_
       refine l_q (q_pick_t (v := .bool _) rfl rfl rfl) ?_
       refine l_q (q_pick_f (v := .bool _) rfl rfl rfl) ?_
       refine l_nil ?_
       refine r_forget [(1, .pointer _), (3, .slice _ _ _), (5, .slice _ _ _), (7, .int _ _), (8, .slice _ _ _), (11, .int _ _), (114, .bool _)] ⟨rfl, rfl, rfl, rfl, rfl, rfl, rfl, trivial⟩ (fun e59 => ?_)
       have hk60 : (!decide ((((verdW (lg co er se sl rl)).1).getD c 0) = 1)) = false := by rw [hvr, verd_1' hov (fal_nil hcR hfb)]; rfl
       refine r_cond_f ((congrArg Value.bool hk60 : Value.bool _ = _)) ?_
       refine r_skip (r_seq (r_region' ?_))
       refine l_q (q_move (v := .slice _ _ _) rfl rfl) ?_
       refine l_q (q_move (v := .int _ _) rfl rfl) ?_
       obtain ⟨b61, o61, ha61, hh61⟩ := hr11_0.at1 c (((assignM (lg co er se sl rl)).1).getD c 0) (getD_some (by omega))
       refine l_q (q_indexAddr1 Tryz.underlying25 Tryz.sizeOf3 rfl ha61 rfl (by omega) rfl) ?_
       refine l_q (q_load Tryz.isAgg3 rfl (hh61) rfl) ?_
       refine l_q (q_lss rfl rfl rfl) ?_
       refine l_q (q_move (v := .bool _) rfl rfl) ?_
       refine l_part 120 rfl (fun hc62 => ?_) (fun hc62 => ?_)
       ·
        replace hc62 := dt hc62
        have hf2 : falB (lg co er se sl rl) (rl.getD c rcd0) = true ∧ falV (lg co er se sl rl) c = true := asg_fal hbm hcR (by have h := hc62; rw [haW] at h; exact h)
        refine l_q (q_move (v := .slice _ _ _) rfl rfl) ?_
        refine l_q (q_move (v := .int _ _) rfl rfl) ?_
        obtain ⟨b63, o63, ha63, hh63⟩ := hr7_0.at1 c (((verdW (lg co er se sl rl)).1).getD c 0) (getD_some (by omega))
        refine l_q (q_indexAddr1 Tryz.underlying25 Tryz.sizeOf3 rfl ha63 rfl (by omega) rfl) ?_
        refine l_q (q_load Tryz.isAgg3 rfl (hh63) rfl) ?_
        refine l_q (q_eql rfl rfl rfl) ?_
        refine l_q (q_move (v := .bool _) rfl rfl) ?_
        have hk64 : (decide ((((verdW (lg co er se sl rl)).1).getD c 0) = 1)) = false := by rw [hvr, decide_eq_false (verd_n1 hf2.2)]
        refine l_part 126 rfl (fun hx => absurd (hk64.symm.trans hx) (by decide)) (fun _ => ?_)
        refine l_q (q_move (v := .int _ _) rfl rfl) ?_
        refine l_q (q_neq rfl rfl rfl) ?_
        refine l_q (q_pick_f (v := .bool _) rfl rfl rfl) ?_
        refine l_q (q_pick_t (v := .bool _) rfl rfl rfl) ?_
        refine l_q (q_move (v := .bool _) rfl rfl) ?_
        have hk65 : (!decide (((maskedM (lg co er se sl rl) (c : Int)).2) = 0)) = false := by rw [hmk, if_pos hf2.1]; rfl
        refine l_part 131 rfl (fun hx => absurd (hk65.symm.trans hx) (by decide)) (fun _ => ?_)
        refine l_q (q_move (v := .slice _ _ _) rfl rfl) ?_
        refine l_q (q_move (v := .int _ _) rfl rfl) ?_
        obtain ⟨b66, o66, ha66, hh66⟩ := hr11_0.at1 c (((assignM (lg co er se sl rl)).1).getD c 0) (getD_some (by omega))
        refine l_q (q_indexAddr1 Tryz.underlying25 Tryz.sizeOf3 rfl ha66 rfl (by omega) rfl) ?_
        refine l_q (q_load Tryz.isAgg3 rfl (hh66) rfl) ?_
        refine l_q (q_geq rfl rfl rfl) ?_
        refine l_q (q_move (v := .bool _) rfl rfl) ?_
        have hk67 : (decide (0 ≤ (((assignM (lg co er se sl rl)).1).getD c 0))) = false := by rw [decide_eq_false (by omega)]
        refine l_part 137 rfl (fun hx => absurd (hk67.symm.trans hx) (by decide)) (fun _ => ?_)
        refine l_q (q_skip rfl) ?_
        refine l_q (q_skip rfl) ?_
        refine l_q (q_skip rfl) ?_
        refine l_q (q_skip rfl) ?_
        refine l_q (q_skip rfl) ?_
        refine l_q (q_skip rfl) ?_
        refine l_q (q_skip rfl) ?_
        refine l_q (q_skip rfl) ?_
        refine l_q (q_skip rfl) ?_
        refine l_q (q_skip rfl) ?_
        refine l_q (q_skip rfl) ?_
        refine l_q (q_skip rfl) ?_
        refine l_q (q_skip rfl) ?_
        refine l_q (q_skip rfl) ?_
        refine l_q (q_pick_f (v := .bool _) rfl rfl rfl) ?_
        refine l_q (q_pick_f (v := .bool _) rfl rfl rfl) ?_
        refine l_nil ?_
        refine r_forget [(1, .pointer _), (3, .slice _ _ _), (5, .slice _ _ _), (7, .int _ _), (153, .bool _)] ⟨rfl, rfl, rfl, rfl, rfl, trivial⟩ (fun e68 => ?_)
        refine r_cond_f rfl ?_
        refine r_skip (r_inBlock (r_region' ?_))
        refine l_q (q_move (v := .int _ _) rfl rfl) ?_
        refine l_q (q_add rfl rfl (by omega) rfl) ?_
        refine l_q (q_assign (v := .int _ _) rfl rfl) ?_
        refine l_nil ?_
        exact ih22 (c + 1) _ _ ⟨⟨rfl, rfl, rfl, (vint_eq (by omega)), trivial⟩, (by omega), hb1, hlg5, hr7_0, hlg9, hr11_0, hsz, hB⟩ (by first | omega | (dsimp only; omega))
       ·
        replace hc62 := dlt hc62
        have ho2 : hasI (ownL (lg co er se sl rl) (rl.getD c rcd0)) ((bestM (lg co er se sl rl)).getD c 0) = true ∧ ownV (lg co er se sl rl) c = true := asg_own hbm hcR (by have h := hc62; rw [haW] at h; have h2 : ¬ (bestM (lg co er se sl rl)).getD c 0 < 0 := (by first | exact h | exact Int.not_lt.2 h); omega)
        refine l_q (q_skip rfl) ?_
        refine l_q (q_skip rfl) ?_
        refine l_q (q_skip rfl) ?_
        refine l_q (q_skip rfl) ?_
        refine l_q (q_skip rfl) ?_
        refine l_q (q_skip rfl) ?_
        refine l_q (q_skip rfl) ?_
        refine l_q (q_skip rfl) ?_
        refine l_q (q_skip rfl) ?_
        refine l_q (q_pick_f (v := .bool _) rfl rfl rfl) ?_
        refine l_q (q_move (v := .bool _) rfl rfl) ?_
        refine l_q (q_move (v := .slice _ _ _) rfl rfl) ?_
        refine l_q (q_move (v := .int _ _) rfl rfl) ?_
        obtain ⟨b69, o69, ha69, hh69⟩ := hr11_0.at1 c (((assignM (lg co er se sl rl)).1).getD c 0) (getD_some (by omega))
        refine l_q (q_indexAddr1 Tryz.underlying25 Tryz.sizeOf3 rfl ha69 rfl (by omega) rfl) ?_
        refine l_q (q_load Tryz.isAgg3 rfl (hh69) rfl) ?_
        refine l_q (q_geq rfl rfl rfl) ?_
        refine l_q (q_move (v := .bool _) rfl rfl) ?_
        have hk70 : (decide (0 ≤ (((assignM (lg co er se sl rl)).1).getD c 0))) = true := by rw [decide_eq_true (by omega)]
        refine l_part 137 rfl (fun _ => ?_) (fun hx => absurd (hk70.symm.trans hx) (by decide))
        refine l_q (q_move (v := .slice _ _ _) rfl rfl) ?_
        refine l_q (q_move (v := .int _ _) rfl rfl) ?_
        obtain ⟨b71, o71, ha71, hh71⟩ := hr7_0.at1 c (((verdW (lg co er se sl rl)).1).getD c 0) (getD_some (by omega))
        refine l_q (q_indexAddr1 Tryz.underlying25 Tryz.sizeOf3 rfl ha71 rfl (by omega) rfl) ?_
        refine l_q (q_load Tryz.isAgg3 rfl (hh71) rfl) ?_
        refine l_q (q_eql rfl rfl rfl) ?_
        refine l_q (q_move (v := .bool _) rfl rfl) ?_
        have hk72 : (decide ((((verdW (lg co er se sl rl)).1).getD c 0) = 2)) = false := by rw [hvr, decide_eq_false (verd_n2 ho2.2)]
        refine l_part 143 rfl (fun hx => absurd (hk72.symm.trans hx) (by decide)) (fun _ => ?_)
        refine l_q (q_move (v := .slice _ _ _) rfl rfl) ?_
        refine l_q (q_move (v := .slice _ _ _) rfl rfl) ?_
        refine l_q (q_move (v := .int _ _) rfl rfl) ?_
        obtain ⟨b73, o73, ha73, hh73⟩ := hr11_0.at1 c (((assignM (lg co er se sl rl)).1).getD c 0) (getD_some (by omega))
        refine l_q (q_indexAddr1 Tryz.underlying25 Tryz.sizeOf3 rfl ha73 rfl (by omega) rfl) ?_
        refine l_q (q_load Tryz.isAgg3 rfl (hh73) rfl) ?_
        refine l_o (o_call Tryz.call37 rfl (has6_ret _ _ ((ownM (lg co er se sl rl) (c : Int)).1) _ _ hr26_0 (by rw [hon]; exact own_small hok)) rfl ?_)
        rintro _ w74 ⟨rfl, hE74⟩
        replace hB := below_ext hB hE74 hsz
        replace hb1 := hb1.ext hE74
        replace hlg5 := hlg5.ext hE74
        replace hr7_0 := hr7_0.ext hE74
        replace hlg9 := hlg9.ext hE74
        replace hr11_0 := hr11_0.ext hE74
        replace hr26_0 := hr26_0.ext hE74
        replace hsz := Nat.le_trans hsz hE74.size
        refine l_q (q_not rfl rfl) ?_
        refine l_q (q_pick_f (v := .bool _) rfl rfl rfl) ?_
        refine l_q (q_pick_t (v := .bool _) rfl rfl rfl) ?_
        refine l_q (q_pick_f (v := .bool _) rfl rfl rfl) ?_
        refine l_nil ?_
        refine r_forget [(1, .pointer _), (3, .slice _ _ _), (5, .slice _ _ _), (7, .int _ _), (153, .bool _)] ⟨rfl, rfl, rfl, rfl, rfl, trivial⟩ (fun e75 => ?_)
        have hk76 : (!(hasI ((ownM (lg co er se sl rl) (c : Int)).1) (((assignM (lg co er se sl rl)).1).getD c 0))) = false := by rw [hon, haW]; show (!hasI (ownL (lg co er se sl rl) (rl.getD c rcd0)) ((bestM (lg co er se sl rl)).getD c 0)) = false; rw [ho2.1]; rfl
        refine r_cond_f ((congrArg Value.bool hk76 : Value.bool _ = _)) ?_
        refine r_skip (r_inBlock (r_region' ?_))
        refine l_q (q_move (v := .int _ _) rfl rfl) ?_
        refine l_q (q_add rfl rfl (by omega) rfl) ?_
        refine l_q (q_assign (v := .int _ _) rfl rfl) ?_
        refine l_nil ?_
        exact ih22 (c + 1) _ _ ⟨⟨rfl, rfl, rfl, (vint_eq (by omega)), trivial⟩, (by omega), hb1, hlg5, hr7_0, hlg9, hr11_0, hsz, hB⟩ (by first | omega | (dsimp only; omega))
     ·
      replace hc32 := dt (nf hc32)
      have hfb : falB (lg co er se sl rl) (rl.getD c rcd0) = true := by have h := hc32; rw [hmk] at h; cases hq : falB (lg co er se sl rl) (rl.getD c rcd0) with | true => rfl | false => (rw [hq, if_neg (by decide)] at h; cases h)
      refine l_q (q_skip rfl) ?_
      refine l_q (q_skip rfl) ?_
      refine l_q (q_pick_f (v := .bool _) rfl rfl rfl) ?_
      refine l_q (q_pick_f (v := .bool _) rfl rfl rfl) ?_
      refine l_q (q_move (v := .bool _) rfl rfl) ?_
      refine l_q (q_move (v := .slice _ _ _) rfl rfl) ?_
      refine l_q (q_len rfl Tryz.underlying25 rfl rfl) ?_
      refine l_q (q_eql rfl rfl rfl) ?_
      refine l_q (q_move (v := .bool _) rfl rfl) ?_
      refine l_part 96 rfl (fun hc77 => ?_) (fun hc77 => ?_)
      ·
       replace hc77 := dt hc77
       have hnil : ownL (lg co er se sl rl) (rl.getD c rcd0) = [] := by have h := hc77; rw [hon] at h; have h2 : ((ownL (lg co er se sl rl) (rl.getD c rcd0)).length : Int) = 0 := h; exact List.length_eq_zero_iff.1 (by omega)
       refine l_q (q_move (v := .slice _ _ _) rfl rfl) ?_
       refine l_q (q_move (v := .int _ _) rfl rfl) ?_
       obtain ⟨b78, o78, ha78, hh78⟩ := hr7_0.at1 c (((verdW (lg co er se sl rl)).1).getD c 0) (getD_some (by omega))
       refine l_q (q_indexAddr1 Tryz.underlying25 Tryz.sizeOf3 rfl ha78 rfl (by omega) rfl) ?_
       refine l_q (q_load Tryz.isAgg3 rfl (hh78) rfl) ?_
       refine l_q (q_neq rfl rfl rfl) ?_
       refine l_q (q_pick_t (v := .bool _) rfl rfl rfl) ?_
       refine l_q (q_pick_f (v := .bool _) rfl rfl rfl) ?_
       refine l_q (q_move (v := .bool _) rfl rfl) ?_
       have hk79 : (!decide ((((verdW (lg co er se sl rl)).1).getD c 0) = 2)) = false := by rw [hvr, verd_2' hov (own_nil hcR hnil)]; rfl
       refine l_part 104 rfl (fun hx => absurd (hk79.symm.trans hx) (by decide)) (fun _ => ?_)
       refine l_q (q_move (v := .int _ _) rfl rfl) ?_
       refine l_q (q_neq rfl rfl rfl) ?_
       refine l_q (q_move (v := .bool _) rfl rfl) ?_
       have hk80 : (!decide (((maskedM (lg co er se sl rl) (c : Int)).2) = 0)) = false := by rw [hmk, if_pos hfb]; rfl
       refine l_part 107 rfl (fun hx => absurd (hk80.symm.trans hx) (by decide)) (fun _ => ?_)
       refine l_q (q_skip rfl) ?_
       refine l_q (q_skip rfl) ?_
       refine l_q (q_skip rfl) ?_
       refine l_q (q_skip rfl) ?_
       refine l_q (q_skip rfl) ?_
       refine l_q (q_pick_f (v := .bool _) rfl rfl rfl) ?_
       refine l_q (q_pick_f (v := .bool _) rfl rfl rfl) ?_
       refine l_nil ?_
       refine r_forget [(1, .pointer _), (3, .slice _ _ _), (5, .slice _ _ _), (7, .int _ _), (8, .slice _ _ _), (11, .int _ _), (114, .bool _)] ⟨rfl, rfl, rfl, rfl, rfl, rfl, rfl, trivial⟩ (fun e81 => ?_)
       refine r_cond_f rfl ?_
       refine r_skip (r_seq (r_region' ?_))
       refine l_q (q_move (v := .slice _ _ _) rfl rfl) ?_
       refine l_q (q_move (v := .int _ _) rfl rfl) ?_
       obtain ⟨b82, o82, ha82, hh82⟩ := hr11_0.at1 c (((assignM (lg co er se sl rl)).1).getD c 0) (getD_some (by omega))
       refine l_q (q_indexAddr1 Tryz.underlying25 Tryz.sizeOf3 rfl ha82 rfl (by omega) rfl) ?_
       refine l_q (q_load Tryz.isAgg3 rfl (hh82) rfl) ?_
       refine l_q (q_lss rfl rfl rfl) ?_
       refine l_q (q_move (v := .bool _) rfl rfl) ?_
       refine l_part 120 rfl (fun hc83 => ?_) (fun hc83 => ?_)
       ·
        replace hc83 := dt hc83
        have hf2 : falB (lg co er se sl rl) (rl.getD c rcd0) = true ∧ falV (lg co er se sl rl) c = true := asg_fal hbm hcR (by have h := hc83; rw [haW] at h; exact h)
        refine l_q (q_move (v := .slice _ _ _) rfl rfl) ?_
        refine l_q (q_move (v := .int _ _) rfl rfl) ?_
        obtain ⟨b84, o84, ha84, hh84⟩ := hr7_0.at1 c (((verdW (lg co er se sl rl)).1).getD c 0) (getD_some (by omega))
        refine l_q (q_indexAddr1 Tryz.underlying25 Tryz.sizeOf3 rfl ha84 rfl (by omega) rfl) ?_
        refine l_q (q_load Tryz.isAgg3 rfl (hh84) rfl) ?_
        refine l_q (q_eql rfl rfl rfl) ?_
        refine l_q (q_move (v := .bool _) rfl rfl) ?_
        have hk85 : (decide ((((verdW (lg co er se sl rl)).1).getD c 0) = 1)) = false := by rw [hvr, decide_eq_false (verd_n1 hf2.2)]
        refine l_part 126 rfl (fun hx => absurd (hk85.symm.trans hx) (by decide)) (fun _ => ?_)
        refine l_q (q_move (v := .int _ _) rfl rfl) ?_
        refine l_q (q_neq rfl rfl rfl) ?_
        refine l_q (q_pick_f (v := .bool _) rfl rfl rfl) ?_
        refine l_q (q_pick_t (v := .bool _) rfl rfl rfl) ?_
        refine l_q (q_move (v := .bool _) rfl rfl) ?_
        have hk86 : (!decide (((maskedM (lg co er se sl rl) (c : Int)).2) = 0)) = false := by rw [hmk, if_pos hf2.1]; rfl
        refine l_part 131 rfl (fun hx => absurd (hk86.symm.trans hx) (by decide)) (fun _ => ?_)
        refine l_q (q_move (v := .slice _ _ _) rfl rfl) ?_
        refine l_q (q_move (v := .int _ _) rfl rfl) ?_
        obtain ⟨b87, o87, ha87, hh87⟩ := hr11_0.at1 c (((assignM (lg co er se sl rl)).1).getD c 0) (getD_some (by omega))
        refine l_q (q_indexAddr1 Tryz.underlying25 Tryz.sizeOf3 rfl ha87 rfl (by omega) rfl) ?_
        refine l_q (q_load Tryz.isAgg3 rfl (hh87) rfl) ?_
        refine l_q (q_geq rfl rfl rfl) ?_
        refine l_q (q_move (v := .bool _) rfl rfl) ?_
        have hk88 : (decide (0 ≤ (((assignM (lg co er se sl rl)).1).getD c 0))) = false := by rw [decide_eq_false (by omega)]
        refine l_part 137 rfl (fun hx => absurd (hk88.symm.trans hx) (by decide)) (fun _ => ?_)
        refine l_q (q_skip rfl) ?_
        refine l_q (q_skip rfl) ?_
        refine l_q (q_skip rfl) ?_
        refine l_q (q_skip rfl) ?_
        refine l_q (q_skip rfl) ?_
        refine l_q (q_skip rfl) ?_
        refine l_q (q_skip rfl) ?_
        refine l_q (q_skip rfl) ?_
        refine l_q (q_skip rfl) ?_
        refine l_q (q_skip rfl) ?_
        refine l_q (q_skip rfl) ?_
        refine l_q (q_skip rfl) ?_
        refine l_q (q_skip rfl) ?_
        refine l_q (q_skip rfl) ?_
        refine l_q (q_pick_f (v := .bool _) rfl rfl rfl) ?_
        refine l_q (q_pick_f (v := .bool _) rfl rfl rfl) ?_
        refine l_nil ?_
        refine r_forget [(1, .pointer _), (3, .slice _ _ _), (5, .slice _ _ _), (7, .int _ _), (153, .bool _)] ⟨rfl, rfl, rfl, rfl, rfl, trivial⟩ (fun e89 => ?_)
        refine r_cond_f rfl ?_
        refine r_skip (r_inBlock (r_region' ?_))
        refine l_q (q_move (v := .int _ _) rfl rfl) ?_
        refine l_q (q_add rfl rfl (by omega) rfl) ?_
        refine l_q (q_assign (v := .int _ _) rfl rfl) ?_
        refine l_nil ?_
        exact ih22 (c + 1) _ _ ⟨⟨rfl, rfl, rfl, (vint_eq (by omega)), trivial⟩, (by omega), hb1, hlg5, hr7_0, hlg9, hr11_0, hsz, hB⟩ (by first | omega | (dsimp only; omega))
       ·
        replace hc83 := dlt hc83
        have ho2 : hasI (ownL (lg co er se sl rl) (rl.getD c rcd0)) ((bestM (lg co er se sl rl)).getD c 0) = true ∧ ownV (lg co er se sl rl) c = true := asg_own hbm hcR (by have h := hc83; rw [haW] at h; have h2 : ¬ (bestM (lg co er se sl rl)).getD c 0 < 0 := (by first | exact h | exact Int.not_lt.2 h); omega)
        refine l_q (q_skip rfl) ?_
        refine l_q (q_skip rfl) ?_
        refine l_q (q_skip rfl) ?_
        refine l_q (q_skip rfl) ?_
        refine l_q (q_skip rfl) ?_
        refine l_q (q_skip rfl) ?_
        refine l_q (q_skip rfl) ?_
        refine l_q (q_skip rfl) ?_
        refine l_q (q_skip rfl) ?_
        refine l_q (q_pick_f (v := .bool _) rfl rfl rfl) ?_
        refine l_q (q_move (v := .bool _) rfl rfl) ?_
        refine l_q (q_move (v := .slice _ _ _) rfl rfl) ?_
        refine l_q (q_move (v := .int _ _) rfl rfl) ?_
        obtain ⟨b90, o90, ha90, hh90⟩ := hr11_0.at1 c (((assignM (lg co er se sl rl)).1).getD c 0) (getD_some (by omega))
        refine l_q (q_indexAddr1 Tryz.underlying25 Tryz.sizeOf3 rfl ha90 rfl (by omega) rfl) ?_
        refine l_q (q_load Tryz.isAgg3 rfl (hh90) rfl) ?_
        refine l_q (q_geq rfl rfl rfl) ?_
        refine l_q (q_move (v := .bool _) rfl rfl) ?_
        have hk91 : (decide (0 ≤ (((assignM (lg co er se sl rl)).1).getD c 0))) = true := by rw [decide_eq_true (by omega)]
        refine l_part 137 rfl (fun _ => ?_) (fun hx => absurd (hk91.symm.trans hx) (by decide))
        refine l_q (q_move (v := .slice _ _ _) rfl rfl) ?_
        refine l_q (q_move (v := .int _ _) rfl rfl) ?_
        obtain ⟨b92, o92, ha92, hh92⟩ := hr7_0.at1 c (((verdW (lg co er se sl rl)).1).getD c 0) (getD_some (by omega))
        refine l_q (q_indexAddr1 Tryz.underlying25 Tryz.sizeOf3 rfl ha92 rfl (by omega) rfl) ?_
        refine l_q (q_load Tryz.isAgg3 rfl (hh92) rfl) ?_
        refine l_q (q_eql rfl rfl rfl) ?_
        refine l_q (q_move (v := .bool _) rfl rfl) ?_
        have hk93 : (decide ((((verdW (lg co er se sl rl)).1).getD c 0) = 2)) = false := by rw [hvr, decide_eq_false (verd_n2 ho2.2)]
        refine l_part 143 rfl (fun hx => absurd (hk93.symm.trans hx) (by decide)) (fun _ => ?_)
        refine l_q (q_move (v := .slice _ _ _) rfl rfl) ?_
        refine l_q (q_move (v := .slice _ _ _) rfl rfl) ?_
        refine l_q (q_move (v := .int _ _) rfl rfl) ?_
        obtain ⟨b94, o94, ha94, hh94⟩ := hr11_0.at1 c (((assignM (lg co er se sl rl)).1).getD c 0) (getD_some (by omega))
        refine l_q (q_indexAddr1 Tryz.underlying25 Tryz.sizeOf3 rfl ha94 rfl (by omega) rfl) ?_
        refine l_q (q_load Tryz.isAgg3 rfl (hh94) rfl) ?_
        refine l_o (o_call Tryz.call37 rfl (has6_ret _ _ ((ownM (lg co er se sl rl) (c : Int)).1) _ _ hr26_0 (by rw [hon]; exact own_small hok)) rfl ?_)
        rintro _ w95 ⟨rfl, hE95⟩
        replace hB := below_ext hB hE95 hsz
        replace hb1 := hb1.ext hE95
        replace hlg5 := hlg5.ext hE95
        replace hr7_0 := hr7_0.ext hE95
        replace hlg9 := hlg9.ext hE95
        replace hr11_0 := hr11_0.ext hE95
        replace hr26_0 := hr26_0.ext hE95
        replace hsz := Nat.le_trans hsz hE95.size
        refine l_q (q_not rfl rfl) ?_
        refine l_q (q_pick_f (v := .bool _) rfl rfl rfl) ?_
        refine l_q (q_pick_t (v := .bool _) rfl rfl rfl) ?_
        refine l_q (q_pick_f (v := .bool _) rfl rfl rfl) ?_
        refine l_nil ?_
        refine r_forget [(1, .pointer _), (3, .slice _ _ _), (5, .slice _ _ _), (7, .int _ _), (153, .bool _)] ⟨rfl, rfl, rfl, rfl, rfl, trivial⟩ (fun e96 => ?_)
        have hk97 : (!(hasI ((ownM (lg co er se sl rl) (c : Int)).1) (((assignM (lg co er se sl rl)).1).getD c 0))) = false := by rw [hon, haW]; show (!hasI (ownL (lg co er se sl rl) (rl.getD c rcd0)) ((bestM (lg co er se sl rl)).getD c 0)) = false; rw [ho2.1]; rfl
        refine r_cond_f ((congrArg Value.bool hk97 : Value.bool _ = _)) ?_
        refine r_skip (r_inBlock (r_region' ?_))
        refine l_q (q_move (v := .int _ _) rfl rfl) ?_
        refine l_q (q_add rfl rfl (by omega) rfl) ?_
        refine l_q (q_assign (v := .int _ _) rfl rfl) ?_
        refine l_nil ?_
        exact ih22 (c + 1) _ _ ⟨⟨rfl, rfl, rfl, (vint_eq (by omega)), trivial⟩, (by omega), hb1, hlg5, hr7_0, hlg9, hr11_0, hsz, hB⟩ (by first | omega | (dsimp only; omega))
      ·
       replace hc77 := df hc77
       refine l_q (q_skip rfl) ?_
       refine l_q (q_skip rfl) ?_
       refine l_q (q_skip rfl) ?_
       refine l_q (q_skip rfl) ?_
       refine l_q (q_skip rfl) ?_
       refine l_q (q_pick_f (v := .bool _) rfl rfl rfl) ?_
       refine l_q (q_pick_f (v := .bool _) rfl rfl rfl) ?_
       refine l_q (q_move (v := .bool _) rfl rfl) ?_
       refine l_q (q_move (v := .int _ _) rfl rfl) ?_
       refine l_q (q_neq rfl rfl rfl) ?_
       refine l_q (q_move (v := .bool _) rfl rfl) ?_
       have hk98 : (!decide (((maskedM (lg co er se sl rl) (c : Int)).2) = 0)) = false := by rw [hmk, if_pos hfb]; rfl
       refine l_part 107 rfl (fun hx => absurd (hk98.symm.trans hx) (by decide)) (fun _ => ?_)
       refine l_q (q_skip rfl) ?_
       refine l_q (q_skip rfl) ?_
       refine l_q (q_skip rfl) ?_
       refine l_q (q_skip rfl) ?_
       refine l_q (q_skip rfl) ?_
       refine l_q (q_pick_f (v := .bool _) rfl rfl rfl) ?_
       refine l_q (q_pick_f (v := .bool _) rfl rfl rfl) ?_
       refine l_nil ?_
       refine r_forget [(1, .pointer _), (3, .slice _ _ _), (5, .slice _ _ _), (7, .int _ _), (8, .slice _ _ _), (11, .int _ _), (114, .bool _)] ⟨rfl, rfl, rfl, rfl, rfl, rfl, rfl, trivial⟩ (fun e99 => ?_)
       refine r_cond_f rfl ?_
       refine r_skip (r_seq (r_region' ?_))
       refine l_q (q_move (v := .slice _ _ _) rfl rfl) ?_
       refine l_q (q_move (v := .int _ _) rfl rfl) ?_
       obtain ⟨b100, o100, ha100, hh100⟩ := hr11_0.at1 c (((assignM (lg co er se sl rl)).1).getD c 0) (getD_some (by omega))
       refine l_q (q_indexAddr1 Tryz.underlying25 Tryz.sizeOf3 rfl ha100 rfl (by omega) rfl) ?_
       refine l_q (q_load Tryz.isAgg3 rfl (hh100) rfl) ?_
       refine l_q (q_lss rfl rfl rfl) ?_
       refine l_q (q_move (v := .bool _) rfl rfl) ?_
       refine l_part 120 rfl (fun hc101 => ?_) (fun hc101 => ?_)
       ·
        replace hc101 := dt hc101
        have hf2 : falB (lg co er se sl rl) (rl.getD c rcd0) = true ∧ falV (lg co er se sl rl) c = true := asg_fal hbm hcR (by have h := hc101; rw [haW] at h; exact h)
        refine l_q (q_move (v := .slice _ _ _) rfl rfl) ?_
        refine l_q (q_move (v := .int _ _) rfl rfl) ?_
        obtain ⟨b102, o102, ha102, hh102⟩ := hr7_0.at1 c (((verdW (lg co er se sl rl)).1).getD c 0) (getD_some (by omega))
        refine l_q (q_indexAddr1 Tryz.underlying25 Tryz.sizeOf3 rfl ha102 rfl (by omega) rfl) ?_
        refine l_q (q_load Tryz.isAgg3 rfl (hh102) rfl) ?_
        refine l_q (q_eql rfl rfl rfl) ?_
        refine l_q (q_move (v := .bool _) rfl rfl) ?_
        have hk103 : (decide ((((verdW (lg co er se sl rl)).1).getD c 0) = 1)) = false := by rw [hvr, decide_eq_false (verd_n1 hf2.2)]
        refine l_part 126 rfl (fun hx => absurd (hk103.symm.trans hx) (by decide)) (fun _ => ?_)
        refine l_q (q_move (v := .int _ _) rfl rfl) ?_
        refine l_q (q_neq rfl rfl rfl) ?_
        refine l_q (q_pick_f (v := .bool _) rfl rfl rfl) ?_
        refine l_q (q_pick_t (v := .bool _) rfl rfl rfl) ?_
        refine l_q (q_move (v := .bool _) rfl rfl) ?_
        have hk104 : (!decide (((maskedM (lg co er se sl rl) (c : Int)).2) = 0)) = false := by rw [hmk, if_pos hf2.1]; rfl
        refine l_part 131 rfl (fun hx => absurd (hk104.symm.trans hx) (by decide)) (fun _ => ?_)
        refine l_q (q_move (v := .slice _ _ _) rfl rfl) ?_
        refine l_q (q_move (v := .int _ _) rfl rfl) ?_
        obtain ⟨b105, o105, ha105, hh105⟩ := hr11_0.at1 c (((assignM (lg co er se sl rl)).1).getD c 0) (getD_some (by omega))
        refine l_q (q_indexAddr1 Tryz.underlying25 Tryz.sizeOf3 rfl ha105 rfl (by omega) rfl) ?_
        refine l_q (q_load Tryz.isAgg3 rfl (hh105) rfl) ?_
        refine l_q (q_geq rfl rfl rfl) ?_
        refine l_q (q_move (v := .bool _) rfl rfl) ?_
        have hk106 : (decide (0 ≤ (((assignM (lg co er se sl rl)).1).getD c 0))) = false := by rw [decide_eq_false (by omega)]
        refine l_part 137 rfl (fun hx => absurd (hk106.symm.trans hx) (by decide)) (fun _ => ?_)
        refine l_q (q_skip rfl) ?_
        refine l_q (q_skip rfl) ?_
        refine l_q (q_skip rfl) ?_
        refine l_q (q_skip rfl) ?_
        refine l_q (q_skip rfl) ?_
        refine l_q (q_skip rfl) ?_
        refine l_q (q_skip rfl) ?_
        refine l_q (q_skip rfl) ?_
        refine l_q (q_skip rfl) ?_
        refine l_q (q_skip rfl) ?_
        refine l_q (q_skip rfl) ?_
        refine l_q (q_skip rfl) ?_
        refine l_q (q_skip rfl) ?_
        refine l_q (q_skip rfl) ?_
        refine l_q (q_pick_f (v := .bool _) rfl rfl rfl) ?_
        refine l_q (q_pick_f (v := .bool _) rfl rfl rfl) ?_
        refine l_nil ?_
        refine r_forget [(1, .pointer _), (3, .slice _ _ _), (5, .slice _ _ _), (7, .int _ _), (153, .bool _)] ⟨rfl, rfl, rfl, rfl, rfl, trivial⟩ (fun e107 => ?_)
        refine r_cond_f rfl ?_
        refine r_skip (r_inBlock (r_region' ?_))
        refine l_q (q_move (v := .int _ _) rfl rfl) ?_
        refine l_q (q_add rfl rfl (by omega) rfl) ?_
        refine l_q (q_assign (v := .int _ _) rfl rfl) ?_
        refine l_nil ?_
        exact ih22 (c + 1) _ _ ⟨⟨rfl, rfl, rfl, (vint_eq (by omega)), trivial⟩, (by omega), hb1, hlg5, hr7_0, hlg9, hr11_0, hsz, hB⟩ (by first | omega | (dsimp only; omega))
       ·
        replace hc101 := dlt hc101
        have ho2 : hasI (ownL (lg co er se sl rl) (rl.getD c rcd0)) ((bestM (lg co er se sl rl)).getD c 0) = true ∧ ownV (lg co er se sl rl) c = true := asg_own hbm hcR (by have h := hc101; rw [haW] at h; have h2 : ¬ (bestM (lg co er se sl rl)).getD c 0 < 0 := (by first | exact h | exact Int.not_lt.2 h); omega)
        refine l_q (q_skip rfl) ?_
        refine l_q (q_skip rfl) ?_
        refine l_q (q_skip rfl) ?_
        refine l_q (q_skip rfl) ?_
        refine l_q (q_skip rfl) ?_
        refine l_q (q_skip rfl) ?_
        refine l_q (q_skip rfl) ?_
        refine l_q (q_skip rfl) ?_
        refine l_q (q_skip rfl) ?_
        refine l_q (q_pick_f (v := .bool _) rfl rfl rfl) ?_
        refine l_q (q_move (v := .bool _) rfl rfl) ?_
        refine l_q (q_move (v := .slice _ _ _) rfl rfl) ?_
        refine l_q (q_move (v := .int _ _) rfl rfl) ?_
        obtain ⟨b108, o108, ha108, hh108⟩ := hr11_0.at1 c (((assignM (lg co er se sl rl)).1).getD c 0) (getD_some (by omega))
        refine l_q (q_indexAddr1 Tryz.underlying25 Tryz.sizeOf3 rfl ha108 rfl (by omega) rfl) ?_
        refine l_q (q_load Tryz.isAgg3 rfl (hh108) rfl) ?_
        refine l_q (q_geq rfl rfl rfl) ?_
        refine l_q (q_move (v := .bool _) rfl rfl) ?_
        have hk109 : (decide (0 ≤ (((assignM (lg co er se sl rl)).1).getD c 0))) = true := by rw [decide_eq_true (by omega)]
        refine l_part 137 rfl (fun _ => ?_) (fun hx => absurd (hk109.symm.trans hx) (by decide))
        refine l_q (q_move (v := .slice _ _ _) rfl rfl) ?_
        refine l_q (q_move (v := .int _ _) rfl rfl) ?_
        obtain ⟨b110, o110, ha110, hh110⟩ := hr7_0.at1 c (((verdW (lg co er se sl rl)).1).getD c 0) (getD_some (by omega))
        refine l_q (q_indexAddr1 Tryz.underlying25 Tryz.sizeOf3 rfl ha110 rfl (by omega) rfl) ?_
        refine l_q (q_load Tryz.isAgg3 rfl (hh110) rfl) ?_
        refine l_q (q_eql rfl rfl rfl) ?_
        refine l_q (q_move (v := .bool _) rfl rfl) ?_
        have hk111 : (decide ((((verdW (lg co er se sl rl)).1).getD c 0) = 2)) = false := by rw [hvr, decide_eq_false (verd_n2 ho2.2)]
        refine l_part 143 rfl (fun hx => absurd (hk111.symm.trans hx) (by decide)) (fun _ => ?_)
        refine l_q (q_move (v := .slice _ _ _) rfl rfl) ?_
        refine l_q (q_move (v := .slice _ _ _) rfl rfl) ?_
        refine l_q (q_move (v := .int _ _) rfl rfl) ?_
        obtain ⟨b112, o112, ha112, hh112⟩ := hr11_0.at1 c (((assignM (lg co er se sl rl)).1).getD c 0) (getD_some (by omega))
        refine l_q (q_indexAddr1 Tryz.underlying25 Tryz.sizeOf3 rfl ha112 rfl (by omega) rfl) ?_
        refine l_q (q_load Tryz.isAgg3 rfl (hh112) rfl) ?_
        refine l_o (o_call Tryz.call37 rfl (has6_ret _ _ ((ownM (lg co er se sl rl) (c : Int)).1) _ _ hr26_0 (by rw [hon]; exact own_small hok)) rfl ?_)
        rintro _ w113 ⟨rfl, hE113⟩
        replace hB := below_ext hB hE113 hsz
        replace hb1 := hb1.ext hE113
        replace hlg5 := hlg5.ext hE113
        replace hr7_0 := hr7_0.ext hE113
        replace hlg9 := hlg9.ext hE113
        replace hr11_0 := hr11_0.ext hE113
        replace hsz := Nat.le_trans hsz hE113.size
        refine l_q (q_not rfl rfl) ?_
        refine l_q (q_pick_f (v := .bool _) rfl rfl rfl) ?_
        refine l_q (q_pick_t (v := .bool _) rfl rfl rfl) ?_
        refine l_q (q_pick_f (v := .bool _) rfl rfl rfl) ?_
        refine l_nil ?_
        refine r_forget [(1, .pointer _), (3, .slice _ _ _), (5, .slice _ _ _), (7, .int _ _), (153, .bool _)] ⟨rfl, rfl, rfl, rfl, rfl, trivial⟩ (fun e114 => ?_)
        have hk115 : (!(hasI ((ownM (lg co er se sl rl) (c : Int)).1) (((assignM (lg co er se sl rl)).1).getD c 0))) = false := by rw [hon, haW]; show (!hasI (ownL (lg co er se sl rl) (rl.getD c rcd0)) ((bestM (lg co er se sl rl)).getD c 0)) = false; rw [ho2.1]; rfl
        refine r_cond_f ((congrArg Value.bool hk115 : Value.bool _ = _)) ?_
        refine r_skip (r_inBlock (r_region' ?_))
        refine l_q (q_move (v := .int _ _) rfl rfl) ?_
        refine l_q (q_add rfl rfl (by omega) rfl) ?_
        refine l_q (q_assign (v := .int _ _) rfl rfl) ?_
        refine l_nil ?_
        exact ih22 (c + 1) _ _ ⟨⟨rfl, rfl, rfl, (vint_eq (by omega)), trivial⟩, (by omega), hb1, hlg5, hr7_0, hlg9, hr11_0, hsz, hB⟩ (by first | omega | (dsimp only; omega))
    ·
     replace hc23 := dlt hc23
     refine r_exit rfl ?_
     refine r_seq (r_region' ?_)
     refine l_o (o_call Tryz.call18 rfl (awake6_ret _) rfl ?_)
     rintro _ w116 ⟨rfl, hE116⟩
     replace hB := below_ext hB hE116 hsz
     replace hsz := Nat.le_trans hsz hE116.size
     refine l_q (q_assign (v := .bool _) rfl rfl) ?_
     refine l_nil ?_
     refine r_ret_ (vs := [.bool _]) rfl Tryz.func6 rfl (.nil _) ⟨rfl, trivial⟩ ?_
     exact ⟨rfl, Ext.of_below hB⟩
end Go.Proofs.YtekkdhpgcilpdaaGreat
