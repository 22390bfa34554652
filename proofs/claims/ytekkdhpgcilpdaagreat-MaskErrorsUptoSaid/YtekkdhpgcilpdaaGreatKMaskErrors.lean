/- Contracts. -/
import Derived.Test.YtekkdhpgcilpdaaGreatM16
set_option linter.unusedVariables false
set_option linter.unusedSimpArgs false
namespace Go.Proofs.YtekkdhpgcilpdaaGreat
open Go Go.RowKit Go.Gv Go.Fl


set_option maxHeartbeats 1000000 in
theorem maskErrors_ret (ka : Option Addr) (kc : Nat) (co : List Sg) (er : Int) (sa : Option Addr) (sc : Nat) (se : List Int) (ja : Option Addr) (jc : Nat) (sl : List SN) (ra : Option Addr) (rc : Nat) (rl : List RC) (w : World) (hlg : LgAt w ka kc co sa sc se ja jc sl ra rc rl) (hbg : LgBig co er se sl rl) : Ret Tryz.prog 7 [.agg ⟨[.slice ka co.length kc, vint er, .slice sa se.length sc, .slice ja sl.length jc, .slice ra rl.length rc]⟩] w (fun v w' => v = .bool true ∧ Ext w w') := by
 obtain ⟨⟨hcn, hcl⟩, hen, hsn, ⟨hjn, hjl⟩, hrn, hrl⟩ := id hbg
 have hB := Below.refl w.heap.size w
 have hsz : w.heap.size ≤ w.heap.size := Nat.le_refl _
 refine ret_of_runs (args := [_]) Tryz.func7 rfl (Nat.le_of_ble_eq_true rfl) (by kernel_rfl) ?_
 refine r_seq (r_region' ?_)
 refine l_o (o_box rfl rfl rfl ?_)
 intro b1 w1 hzl1 hzr1 _ hb1 hE1
 have hbs_b1 : w.heap.size ≤ b1 := Nat.le_trans hsz hzl1
 replace hB := below_ext hB hE1 hsz
 replace hsz := Nat.le_trans hsz hE1.size
 refine l_q (q_assign (v := .bool _) rfl rfl) ?_
 refine l_nil (r_seq (r_region' ?_))
 refine l_q (q_load_agg (n := 5) Tryz.isAgg29 Tryz.sizeOf29 rfl ((hb1.cells' (cs' := [_, _, _, _, _]) 0 5 rfl)) rfl rfl) ?_
 refine l_o (o_alloc Tryz.zeroValue29 rfl rfl ?_)
 intro b2 w2 hzl2 hzr2 _ hb2 hE2
 have hne_b1_b2 : b1 ≠ b2 := by have := hb1.lt; omega
 have hbs_b2 : w.heap.size ≤ b2 := Nat.le_trans hsz hzl2
 replace hB := below_ext hB hE2 hsz
 replace hb1 := hb1.ext hE2
 replace hsz := Nat.le_trans hsz hE2.size
 refine l_o (o_store (vs := [.slice ka co.length kc, vint er, .slice sa se.length sc, .slice ja sl.length jc, .slice ra rl.length rc]) (cs' := [.slice ka co.length kc, vint er, .slice sa se.length sc, .slice ja sl.length jc, .slice ra rl.length rc]) Tryz.sizeOf29 rfl rfl rfl rfl hb2 (Nat.le_of_ble_eq_true rfl) rfl rfl ?_)
 intro w3 hz3 hb2 hG3
 replace hB := below_upd hB hG3 hsz (by omega)
 replace hsz : w.heap.size ≤ w3.heap.size := by rw [hz3]; exact hsz
 replace hb1 := hb1.upd hG3 (by omega)
 refine l_nil (r_seq (r_region' ?_))
 refine l_q (q_fieldAddr (o' := 1) rfl fld29_1 rfl) ?_
 refine l_q (q_load Tryz.isAgg3 rfl ((hb2.has (o := 1) rfl)) rfl) ?_
 refine l_q (q_addw rfl rfl rfl) ?_
 refine l_q (q_fieldAddr (o' := 1) rfl fld29_1 rfl) ?_
 refine l_o (o_store (vs := [vint (wr (er + 1))]) (cs' := [.slice ka co.length kc, vint (wr (er + 1)), .slice sa se.length sc, .slice ja sl.length jc, .slice ra rl.length rc]) Tryz.sizeOf3 rfl rfl rfl rfl hb2 (Nat.le_of_ble_eq_true rfl) rfl rfl ?_)
 intro w4 hz4 hb2 hG4
 replace hB := below_upd hB hG4 hsz (by omega)
 replace hsz : w.heap.size ≤ w4.heap.size := by rw [hz4]; exact hsz
 replace hb1 := hb1.upd hG4 (by omega)
 refine l_nil (r_seq (r_seq (r_region' ?_)))
 refine l_q (q_load_agg (n := 5) Tryz.isAgg29 Tryz.sizeOf29 rfl ((hb1.cells' (cs' := [_, _, _, _, _]) 0 5 rfl)) rfl rfl) ?_
 refine l_o (o_call Tryz.call34 rfl (ready6_ret ka kc co er sa sc se ja jc sl ra rc rl _ (hlg.below hB) hbg) rfl ?_)
 rintro _ w5 ⟨bb5, rfl, hrdy, hE5⟩
 replace hB := below_ext hB hE5 hsz
 replace hb1 := hb1.ext hE5
 replace hb2 := hb2.ext hE5
 replace hsz := Nat.le_trans hsz hE5.size
 refine l_q (q_not rfl rfl) ?_
 refine l_q (q_move (v := .bool _) rfl rfl) ?_
 refine l_part 25 rfl (fun hc6 => ?_) (fun hc6 => ?_)
 ·
  replace hc6 := nt hc6
  refine l_q (q_skip rfl) ?_
  refine l_q (q_skip rfl) ?_
  refine l_q (q_skip rfl) ?_
  refine l_q (q_pick_t (v := .bool _) rfl rfl rfl) ?_
  refine l_nil ?_
  refine r_forget [(1, .pointer _), (3, .pointer _), (29, .bool _)] ⟨rfl, rfl, rfl, trivial⟩ (fun e7 => ?_)
  refine r_cond_t rfl ?_
  refine r_seq (r_region' ?_)
  refine l_o (o_call Tryz.call18 rfl (awake6_ret _) rfl ?_)
  rintro _ w8 ⟨rfl, hE8⟩
  replace hB := below_ext hB hE8 hsz
  replace hb1 := hb1.ext hE8
  replace hb2 := hb2.ext hE8
  replace hsz := Nat.le_trans hsz hE8.size
  refine l_q (q_assign (v := .bool _) rfl rfl) ?_
  refine l_nil ?_
  refine r_ret_ (vs := [.bool _]) rfl Tryz.func7 rfl (.nil _) ⟨rfl, trivial⟩ ?_
  exact ⟨rfl, Ext.of_below hB⟩
 ·
  replace hc6 := nf hc6
  have hok := hrdy (by simpa using hc6)
  refine l_q (q_load_agg (n := 5) Tryz.isAgg29 Tryz.sizeOf29 rfl ((hb2.cells' (cs' := [_, _, _, _, _]) 0 5 rfl)) rfl rfl) ?_
  refine l_o (o_call Tryz.call34 rfl (ready6_ret ka kc co (wr (er + 1)) sa sc se ja jc sl ra rc rl _ (hlg.below hB) (big_er hbg (wr_rng _))) rfl ?_)
  rintro _ w9 ⟨bb9, rfl, hrdy, hE9⟩
  replace hB := below_ext hB hE9 hsz
  replace hb1 := hb1.ext hE9
  replace hb2 := hb2.ext hE9
  replace hsz := Nat.le_trans hsz hE9.size
  refine l_q (q_not rfl rfl) ?_
  refine l_q (q_pick_f (v := .bool _) rfl rfl rfl) ?_
  refine l_nil ?_
  refine r_forget [(1, .pointer _), (3, .pointer _), (29, .bool _)] ⟨rfl, rfl, rfl, trivial⟩ (fun e10 => ?_)
  refine r_cond rfl (fun hc11 => ?_) (fun hc11 => ?_)
  ·
   replace hc11 := nt hc11
   refine r_seq (r_region' ?_)
   refine l_o (o_call Tryz.call18 rfl (awake6_ret _) rfl ?_)
   rintro _ w12 ⟨rfl, hE12⟩
   replace hB := below_ext hB hE12 hsz
   replace hb1 := hb1.ext hE12
   replace hb2 := hb2.ext hE12
   replace hsz := Nat.le_trans hsz hE12.size
   refine l_q (q_assign (v := .bool _) rfl rfl) ?_
   refine l_nil ?_
   refine r_ret_ (vs := [.bool _]) rfl Tryz.func7 rfl (.nil _) ⟨rfl, trivial⟩ ?_
   exact ⟨rfl, Ext.of_below hB⟩
  ·
   replace hc11 := nf hc11
   have hok2 := hrdy (by simpa using hc11)
   have hwr := wr_up hok
   have hup : er ≤ wr (er + 1) := by rw [hwr]; omega
   have hlv := leave_up hup hok hok2
   refine r_skip (r_seq (r_region' ?_))
   refine l_q (q_load_agg (n := 5) Tryz.isAgg29 Tryz.sizeOf29 rfl ((hb1.cells' (cs' := [_, _, _, _, _]) 0 5 rfl)) rfl rfl) ?_
   refine l_o (o_call Tryz.call20 rfl (log6_ret ka kc co er sa sc se ja jc sl ra rc rl _ (hlg.below hB) hbg) rfl ?_)
   rintro _ w13 ⟨qka13, qkc13, qsa13, qsc13, qja13, qjc13, qsl13, qra13, qrc13, rfl, hlg13, hm13, hE13⟩
   replace hB := below_ext hB hE13 hsz
   replace hb1 := hb1.ext hE13
   replace hb2 := hb2.ext hE13
   replace hsz := Nat.le_trans hsz hE13.size
   have hv14 := leave6_ret qka13 qkc13 co er qsa13 qsc13 se qja13 qjc13 qsl13 qra13 qrc13 rl  w13 hlg13 (big_same hm13 hbg) 
   rw [lg_same hm13] at hv14
   refine l_o (o_call Tryz.call32 rfl (hv14) rfl ?_)
   rintro _ w15 ⟨a15_0, c15_0, rfl, hr15_0, hE15⟩
   replace hB := below_ext hB hE15 hsz
   replace hb1 := hb1.ext hE15
   replace hb2 := hb2.ext hE15
   replace hlg13 := hlg13.ext hE15
   replace hsz := Nat.le_trans hsz hE15.size
   refine l_q (q_move (v := .tuple _) rfl rfl) ?_
   refine l_q (q_extract (vs := [_, _]) (v := .slice _ _ _) rfl rfl rfl) ?_
   refine l_q (q_extract (vs := [_, _]) (v := .int _ _) rfl rfl rfl) ?_
   refine l_q (q_assign (v := .slice _ _ _) rfl rfl) ?_
   refine l_q (q_assign (v := .int _ _) rfl rfl) ?_
   refine l_nil (r_seq (r_region' ?_))
   refine l_q (q_load_agg (n := 5) Tryz.isAgg29 Tryz.sizeOf29 rfl ((hb2.cells' (cs' := [_, _, _, _, _]) 0 5 rfl)) rfl rfl) ?_
   refine l_o (o_call Tryz.call20 rfl (log6_ret ka kc co (wr (er + 1)) sa sc se ja jc sl ra rc rl _ (hlg.below hB) (big_er hbg (wr_rng _))) rfl ?_)
   rintro _ w16 ⟨qka16, qkc16, qsa16, qsc16, qja16, qjc16, qsl16, qra16, qrc16, rfl, hlg16, hm16, hE16⟩
   replace hB := below_ext hB hE16 hsz
   replace hb1 := hb1.ext hE16
   replace hb2 := hb2.ext hE16
   replace hlg13 := hlg13.ext hE16
   replace hr15_0 := hr15_0.ext hE16
   replace hsz := Nat.le_trans hsz hE16.size
   have hv17 := leave6_ret qka16 qkc16 co (wr (er + 1)) qsa16 qsc16 se qja16 qjc16 qsl16 qra16 qrc16 rl  w16 hlg16 (big_same hm16 (big_er hbg (wr_rng _))) 
   rw [lg_same hm16] at hv17
   refine l_o (o_call Tryz.call32 rfl (hv17) rfl ?_)
   rintro _ w18 ⟨a18_0, c18_0, rfl, hr18_0, hE18⟩
   replace hB := below_ext hB hE18 hsz
   replace hb1 := hb1.ext hE18
   replace hb2 := hb2.ext hE18
   replace hlg13 := hlg13.ext hE18
   replace hr15_0 := hr15_0.ext hE18
   replace hlg16 := hlg16.ext hE18
   replace hsz := Nat.le_trans hsz hE18.size
   refine l_q (q_move (v := .tuple _) rfl rfl) ?_
   refine l_q (q_extract (vs := [_, _]) (v := .slice _ _ _) rfl rfl rfl) ?_
   refine l_q (q_extract (vs := [_, _]) (v := .int _ _) rfl rfl rfl) ?_
   refine l_q (q_assign (v := .slice _ _ _) rfl rfl) ?_
   refine l_q (q_assign (v := .int _ _) rfl rfl) ?_
   refine l_nil ?_
   refine r_forget [(1, .pointer _), (3, .pointer _), (4, .slice _ _ _), (5, .int _ _), (6, .slice _ _ _), (7, .int _ _)] ⟨rfl, rfl, rfl, rfl, rfl, rfl, trivial⟩ (fun e19 => ?_)
   refine r_seq (r_seq (r_region' ?_))
   refine l_q (q_move (v := .int _ _) rfl rfl) ?_
   refine l_q (q_neq rfl rfl rfl) ?_
   refine l_q (q_move (v := .bool _) rfl rfl) ?_
   have hk20 : (!decide (((leavW (lg co er se sl rl)).2) = 0)) = false := by rw [leav_0 hok]; rfl
   refine l_part 45 rfl (fun hx => absurd (hk20.symm.trans hx) (by decide)) (fun _ => ?_)
   refine l_q (q_move (v := .int _ _) rfl rfl) ?_
   refine l_q (q_neq rfl rfl rfl) ?_
   refine l_q (q_pick_f (v := .bool _) rfl rfl rfl) ?_
   refine l_q (q_move (v := .bool _) rfl rfl) ?_
   have hk21 : (!decide (((leavW (lg co (wr (er + 1)) se sl rl)).2) = 0)) = false := by rw [leav_0 hok2]; rfl
   refine l_part 49 rfl (fun hx => absurd (hk21.symm.trans hx) (by decide)) (fun _ => ?_)
   refine l_q (q_move (v := .slice _ _ _) rfl rfl) ?_
   refine l_q (q_len rfl Tryz.underlying25 rfl rfl) ?_
   refine l_q (q_move (v := .slice _ _ _) rfl rfl) ?_
   refine l_q (q_len rfl Tryz.underlying25 rfl rfl) ?_
   refine l_q (q_gtr rfl rfl rfl) ?_
   refine l_q (q_pick_f (v := .bool _) rfl rfl rfl) ?_
   refine l_nil ?_
   refine r_forget [(1, .pointer _), (3, .pointer _), (55, .bool _)] ⟨rfl, rfl, rfl, trivial⟩ (fun e22 => ?_)
   have hk23 : (decide ((((leavW (lg co er se sl rl)).1).length : Int) < (((leavW (lg co (wr (er + 1)) se sl rl)).1).length : Int))) = false := decide_eq_false (by omega)
   refine r_cond_f ((congrArg Value.bool hk23 : Value.bool _ = _)) ?_
   refine r_skip (r_seq (r_seq (r_region' ?_)))
   refine l_q (q_assign (v := .int _ _) rfl rfl) ?_
   refine l_nil (r_block ?_)
   refine r_rounds (α := Nat) (fun c e wl => Knows e [(1, ptr b1 0), (3, ptr b2 0), (8, vint (c : Int))] ∧ (c ≤ rl.length) ∧ (Blk wl b1 [.slice ka co.length kc, vint er, .slice sa se.length sc, .slice ja sl.length jc, .slice ra rl.length rc]) ∧ (Blk wl b2 [.slice ka co.length kc, vint (wr (er + 1)), .slice sa se.length sc, .slice ja sl.length jc, .slice ra rl.length rc]) ∧ (LgAt wl qka13 qkc13 co qsa13 qsc13 se qja13 qjc13 qsl13 qra13 qrc13 rl) ∧ (Row wl a15_0 (((leavW (lg co er se sl rl)).1).length) c15_0 1 (((leavW (lg co er se sl rl)).1).map vint)) ∧ (LgAt wl qka16 qkc16 co qsa16 qsc16 se qja16 qjc16 qsl16 qra16 qrc16 rl) ∧ (Row wl a18_0 (((leavW (lg co (wr (er + 1)) se sl rl)).1).length) c18_0 1 (((leavW (lg co (wr (er + 1)) se sl rl)).1).map vint)) ∧ (w.heap.size ≤ wl.heap.size) ∧ (Below w.heap.size w wl)) (fun c => rl.length - c) 0 ?_ ?_
   ·
    exact ⟨⟨rfl, rfl, rfl, trivial⟩, (Nat.zero_le _), hb1, hb2, hlg13, hr15_0, hlg16, hr18_0, hsz, hB⟩
   ·
    rintro c el24 wl24 ⟨hkn, hkc, hb1, hb2, hlg13, hr15_0, hlg16, hr18_0, hsz, hB⟩ ih24
    obtain ⟨e24, rfl⟩ := knows_env hkn
    refine r_seq (r_seq (r_region' ?_))
    refine l_q (q_move (v := .int _ _) rfl rfl) ?_
    refine l_q (q_fieldAddr (o' := 4) rfl fld29_4 rfl) ?_
    refine l_q (q_load Tryz.isAgg27 rfl ((hb1.has (o := 4) rfl)) rfl) ?_
    refine l_q (q_len rfl Tryz.underlying27 rfl rfl) ?_
    refine l_q (q_lss rfl rfl rfl) ?_
    refine l_nil ?_
    refine r_cond rfl (fun hc25 => ?_) (fun hc25 => ?_)
    ·
     replace hc25 := dt hc25
     have hcR : c < rl.length := by omega
     refine r_skip (r_seq (r_block (r_seq (r_region' ?_))))
     refine l_q (q_load_agg (n := 5) Tryz.isAgg29 Tryz.sizeOf29 rfl ((hb1.cells' (cs' := [_, _, _, _, _]) 0 5 rfl)) rfl rfl) ?_
     refine l_o (o_call Tryz.call20 rfl (log6_ret ka kc co er sa sc se ja jc sl ra rc rl _ (hlg.below hB) hbg) rfl ?_)
     rintro _ w26 ⟨qka26, qkc26, qsa26, qsc26, qja26, qjc26, qsl26, qra26, qrc26, rfl, hlg26, hm26, hE26⟩
     replace hB := below_ext hB hE26 hsz
     replace hb1 := hb1.ext hE26
     replace hb2 := hb2.ext hE26
     replace hlg13 := hlg13.ext hE26
     replace hr15_0 := hr15_0.ext hE26
     replace hlg16 := hlg16.ext hE26
     replace hr18_0 := hr18_0.ext hE26
     replace hsz := Nat.le_trans hsz hE26.size
     refine l_q (q_move (v := .int _ _) rfl rfl) ?_
     have hv27 := own6_ret qka26 qkc26 co er qsa26 qsc26 se qja26 qjc26 qsl26 qra26 qrc26 rl (c : Int) w26 hlg26 (big_same hm26 hbg) 
     rw [lg_same hm26] at hv27
     refine l_o (o_call Tryz.call21 rfl (hv27) rfl ?_)
     rintro _ w28 ⟨a28_0, c28_0, rfl, hr28_0, hE28⟩
     replace hB := below_ext hB hE28 hsz
     replace hb1 := hb1.ext hE28
     replace hb2 := hb2.ext hE28
     replace hlg13 := hlg13.ext hE28
     replace hr15_0 := hr15_0.ext hE28
     replace hlg16 := hlg16.ext hE28
     replace hr18_0 := hr18_0.ext hE28
     replace hsz := Nat.le_trans hsz hE28.size
     refine l_q (q_move (v := .tuple _) rfl rfl) ?_
     refine l_q (q_extract (vs := [_, _]) (v := .slice _ _ _) rfl rfl rfl) ?_
     refine l_q (q_extract (vs := [_, _]) (v := .int _ _) rfl rfl rfl) ?_
     refine l_q (q_assign (v := .slice _ _ _) rfl rfl) ?_
     refine l_q (q_assign (v := .int _ _) rfl rfl) ?_
     refine l_nil ?_
     refine r_forget [(1, .pointer _), (3, .pointer _), (8, .int _ _), (9, .slice _ _ _), (10, .int _ _)] ⟨rfl, rfl, rfl, rfl, rfl, trivial⟩ (fun e29 => ?_)
     refine r_seq (r_region' ?_)
     refine l_q (q_load_agg (n := 5) Tryz.isAgg29 Tryz.sizeOf29 rfl ((hb2.cells' (cs' := [_, _, _, _, _]) 0 5 rfl)) rfl rfl) ?_
     refine l_o (o_call Tryz.call20 rfl (log6_ret ka kc co (wr (er + 1)) sa sc se ja jc sl ra rc rl _ (hlg.below hB) (big_er hbg (wr_rng _))) rfl ?_)
     rintro _ w30 ⟨qka30, qkc30, qsa30, qsc30, qja30, qjc30, qsl30, qra30, qrc30, rfl, hlg30, hm30, hE30⟩
     replace hB := below_ext hB hE30 hsz
     replace hb1 := hb1.ext hE30
     replace hb2 := hb2.ext hE30
     replace hlg13 := hlg13.ext hE30
     replace hr15_0 := hr15_0.ext hE30
     replace hlg16 := hlg16.ext hE30
     replace hr18_0 := hr18_0.ext hE30
     replace hr28_0 := hr28_0.ext hE30
     replace hsz := Nat.le_trans hsz hE30.size
     refine l_q (q_move (v := .int _ _) rfl rfl) ?_
     have hv31 := own6_ret qka30 qkc30 co (wr (er + 1)) qsa30 qsc30 se qja30 qjc30 qsl30 qra30 qrc30 rl (c : Int) w30 hlg30 (big_same hm30 (big_er hbg (wr_rng _))) 
     rw [lg_same hm30] at hv31
     refine l_o (o_call Tryz.call21 rfl (hv31) rfl ?_)
     rintro _ w32 ⟨a32_0, c32_0, rfl, hr32_0, hE32⟩
     replace hB := below_ext hB hE32 hsz
     replace hb1 := hb1.ext hE32
     replace hb2 := hb2.ext hE32
     replace hlg13 := hlg13.ext hE32
     replace hr15_0 := hr15_0.ext hE32
     replace hlg16 := hlg16.ext hE32
     replace hr18_0 := hr18_0.ext hE32
     replace hr28_0 := hr28_0.ext hE32
     replace hsz := Nat.le_trans hsz hE32.size
     refine l_q (q_move (v := .tuple _) rfl rfl) ?_
     refine l_q (q_extract (vs := [_, _]) (v := .slice _ _ _) rfl rfl rfl) ?_
     refine l_q (q_extract (vs := [_, _]) (v := .int _ _) rfl rfl rfl) ?_
     refine l_q (q_assign (v := .slice _ _ _) rfl rfl) ?_
     refine l_q (q_assign (v := .int _ _) rfl rfl) ?_
     refine l_nil (r_seq (r_region' ?_))
     refine l_q (q_load_agg (n := 5) Tryz.isAgg29 Tryz.sizeOf29 rfl ((hb1.cells' (cs' := [_, _, _, _, _]) 0 5 rfl)) rfl rfl) ?_
     refine l_o (o_call Tryz.call20 rfl (log6_ret ka kc co er sa sc se ja jc sl ra rc rl _ (hlg.below hB) hbg) rfl ?_)
     rintro _ w33 ⟨qka33, qkc33, qsa33, qsc33, qja33, qjc33, qsl33, qra33, qrc33, rfl, hlg33, hm33, hE33⟩
     replace hB := below_ext hB hE33 hsz
     replace hb1 := hb1.ext hE33
     replace hb2 := hb2.ext hE33
     replace hlg13 := hlg13.ext hE33
     replace hr15_0 := hr15_0.ext hE33
     replace hlg16 := hlg16.ext hE33
     replace hr18_0 := hr18_0.ext hE33
     replace hr28_0 := hr28_0.ext hE33
     replace hr32_0 := hr32_0.ext hE33
     replace hsz := Nat.le_trans hsz hE33.size
     refine l_q (q_move (v := .int _ _) rfl rfl) ?_
     have hv34 := mMasked_ret qka33 qkc33 co er qsa33 qsc33 se qja33 qjc33 qsl33 qra33 qrc33 rl (c : Int) w33 hlg33 (big_same hm33 hbg) 
     rw [lg_same hm33] at hv34
     refine l_o (o_call Tryz.call27 rfl (hv34) rfl ?_)
     rintro _ w35 ⟨a35_0, c35_0, rfl, hr35_0, hE35⟩
     replace hB := below_ext hB hE35 hsz
     replace hb1 := hb1.ext hE35
     replace hb2 := hb2.ext hE35
     replace hlg13 := hlg13.ext hE35
     replace hr15_0 := hr15_0.ext hE35
     replace hlg16 := hlg16.ext hE35
     replace hr18_0 := hr18_0.ext hE35
     replace hr28_0 := hr28_0.ext hE35
     replace hr32_0 := hr32_0.ext hE35
     replace hsz := Nat.le_trans hsz hE35.size
     refine l_q (q_move (v := .tuple _) rfl rfl) ?_
     refine l_q (q_extract (vs := [_, _]) (v := .slice _ _ _) rfl rfl rfl) ?_
     refine l_q (q_extract (vs := [_, _]) (v := .int _ _) rfl rfl rfl) ?_
     refine l_q (q_assign (v := .slice _ _ _) rfl rfl) ?_
     refine l_q (q_assign (v := .int _ _) rfl rfl) ?_
     refine l_nil ?_
     refine r_forget [(1, .pointer _), (3, .pointer _), (8, .int _ _), (9, .slice _ _ _), (10, .int _ _), (11, .slice _ _ _), (12, .int _ _), (14, .int _ _)] ⟨rfl, rfl, rfl, rfl, rfl, rfl, rfl, rfl, trivial⟩ (fun e36 => ?_)
     refine r_seq (r_region' ?_)
     refine l_q (q_load_agg (n := 5) Tryz.isAgg29 Tryz.sizeOf29 rfl ((hb2.cells' (cs' := [_, _, _, _, _]) 0 5 rfl)) rfl rfl) ?_
     refine l_o (o_call Tryz.call20 rfl (log6_ret ka kc co (wr (er + 1)) sa sc se ja jc sl ra rc rl _ (hlg.below hB) (big_er hbg (wr_rng _))) rfl ?_)
     rintro _ w37 ⟨qka37, qkc37, qsa37, qsc37, qja37, qjc37, qsl37, qra37, qrc37, rfl, hlg37, hm37, hE37⟩
     replace hB := below_ext hB hE37 hsz
     replace hb1 := hb1.ext hE37
     replace hb2 := hb2.ext hE37
     replace hlg13 := hlg13.ext hE37
     replace hr15_0 := hr15_0.ext hE37
     replace hlg16 := hlg16.ext hE37
     replace hr18_0 := hr18_0.ext hE37
     replace hr28_0 := hr28_0.ext hE37
     replace hr32_0 := hr32_0.ext hE37
     replace hsz := Nat.le_trans hsz hE37.size
     refine l_q (q_move (v := .int _ _) rfl rfl) ?_
     have hv38 := mMasked_ret qka37 qkc37 co (wr (er + 1)) qsa37 qsc37 se qja37 qjc37 qsl37 qra37 qrc37 rl (c : Int) w37 hlg37 (big_same hm37 (big_er hbg (wr_rng _))) 
     rw [lg_same hm37] at hv38
     refine l_o (o_call Tryz.call27 rfl (hv38) rfl ?_)
     rintro _ w39 ⟨a39_0, c39_0, rfl, hr39_0, hE39⟩
     replace hB := below_ext hB hE39 hsz
     replace hb1 := hb1.ext hE39
     replace hb2 := hb2.ext hE39
     replace hlg13 := hlg13.ext hE39
     replace hr15_0 := hr15_0.ext hE39
     replace hlg16 := hlg16.ext hE39
     replace hr18_0 := hr18_0.ext hE39
     replace hr28_0 := hr28_0.ext hE39
     replace hr32_0 := hr32_0.ext hE39
     replace hsz := Nat.le_trans hsz hE39.size
     refine l_q (q_move (v := .tuple _) rfl rfl) ?_
     refine l_q (q_extract (vs := [_, _]) (v := .slice _ _ _) rfl rfl rfl) ?_
     refine l_q (q_extract (vs := [_, _]) (v := .int _ _) rfl rfl rfl) ?_
     refine l_q (q_assign (v := .slice _ _ _) rfl rfl) ?_
     refine l_q (q_assign (v := .int _ _) rfl rfl) ?_
     refine l_nil (r_seq ?_)
     have hon : ownM (lg co er se sl rl) (c : Int) = (ownL (lg co er se sl rl) (rl.getD c rcd0), 0) := own_C hok ⟨by omega, by rw [lgR]; omega⟩
     have hon2 : ownM (lg co (wr (er + 1)) se sl rl) (c : Int) = (ownL (lg co (wr (er + 1)) se sl rl) (rl.getD c rcd0), 0) := own_C hok2 ⟨by omega, by rw [lgR]; omega⟩
     have hmk : (maskedM (lg co er se sl rl) (c : Int)).2 = if falB (lg co er se sl rl) (rl.getD c rcd0) = true then 0 else 7 := masked_2 hok (r := c) hcR
     have hmk2 : (maskedM (lg co (wr (er + 1)) se sl rl) (c : Int)).2 = if falB (lg co (wr (er + 1)) se sl rl) (rl.getD c rcd0) = true then 0 else 7 := masked_2 hok2 (r := c) hcR
     refine r_region' ?_
     refine l_q (q_move (v := .int _ _) rfl rfl) ?_
     refine l_q (q_neq rfl rfl rfl) ?_
     refine l_q (q_move (v := .bool _) rfl rfl) ?_
     have hk40 : (!decide (((ownM (lg co er se sl rl) (c : Int)).2) = 0)) = false := by rw [hon]; rfl
     refine l_part 93 rfl (fun hx => absurd (hk40.symm.trans hx) (by decide)) (fun _ => ?_)
     refine l_q (q_move (v := .int _ _) rfl rfl) ?_
     refine l_q (q_neq rfl rfl rfl) ?_
     refine l_q (q_pick_f (v := .bool _) rfl rfl rfl) ?_
     refine l_q (q_move (v := .bool _) rfl rfl) ?_
     have hk41 : (!decide (((ownM (lg co (wr (er + 1)) se sl rl) (c : Int)).2) = 0)) = false := by rw [hon2]; rfl
     refine l_part 97 rfl (fun hx => absurd (hk41.symm.trans hx) (by decide)) (fun _ => ?_)
     refine l_q (q_move (v := .slice _ _ _) rfl rfl) ?_
     refine l_q (q_move (v := .slice _ _ _) rfl rfl) ?_
     refine l_o (o_call Tryz.call38 rfl (subset6_ret _ _ ((ownM (lg co er se sl rl) (c : Int)).1) _ _ ((ownM (lg co (wr (er + 1)) se sl rl) (c : Int)).1) _ hr28_0 (by rw [hon]; exact own_small hok) hr32_0 (by rw [hon2]; exact own_small hok2)) rfl ?_)
     rintro _ w42 ⟨rfl, hE42⟩
     replace hB := below_ext hB hE42 hsz
     replace hb1 := hb1.ext hE42
     replace hb2 := hb2.ext hE42
     replace hlg13 := hlg13.ext hE42
     replace hr15_0 := hr15_0.ext hE42
     replace hlg16 := hlg16.ext hE42
     replace hr18_0 := hr18_0.ext hE42
     replace hsz := Nat.le_trans hsz hE42.size
     refine l_q (q_not rfl rfl) ?_
     refine l_q (q_pick_f (v := .bool _) rfl rfl rfl) ?_
     refine l_q (q_move (v := .bool _) rfl rfl) ?_
     have hk43 : (!((((ownM (lg co er se sl rl) (c : Int)).1)).all (fun x => hasI (((ownM (lg co (wr (er + 1)) se sl rl) (c : Int)).1)) x))) = false := by rw [hon, hon2]; show (!(ownL (lg co er se sl rl) (rl.getD c rcd0)).all (fun x => hasI (ownL (lg co (wr (er + 1)) se sl rl) (rl.getD c rcd0)) x)) = false; rw [ownL_up hup]; rfl
     refine l_part 103 rfl (fun hx => absurd (hk43.symm.trans hx) (by decide)) (fun _ => ?_)
     refine l_q (q_move (v := .int _ _) rfl rfl) ?_
     refine l_q (q_eql rfl rfl rfl) ?_
     refine l_q (q_move (v := .bool _) rfl rfl) ?_
     refine l_part 106 rfl (fun hc44 => ?_) (fun hc44 => ?_)
     ·
      replace hc44 := dt hc44
      have hfb : falB (lg co er se sl rl) (rl.getD c rcd0) = true := by have h := hc44; rw [hmk] at h; cases hq : falB (lg co er se sl rl) (rl.getD c rcd0) with | true => rfl | false => (rw [hq, if_neg (by decide)] at h; cases h)
      refine l_q (q_move (v := .int _ _) rfl rfl) ?_
      refine l_q (q_neq rfl rfl rfl) ?_
      refine l_q (q_pick_t (v := .bool _) rfl rfl rfl) ?_
      refine l_q (q_pick_f (v := .bool _) rfl rfl rfl) ?_
      refine l_nil ?_
      refine r_forget [(1, .pointer _), (3, .pointer _), (8, .int _ _), (110, .bool _)] ⟨rfl, rfl, rfl, rfl, trivial⟩ (fun e45 => ?_)
      have hk46 : (!decide (((maskedM (lg co (wr (er + 1)) se sl rl) (c : Int)).2) = 0)) = false := by rw [hmk2, if_pos (falB_up hup hfb)]; rfl
      refine r_cond_f ((congrArg Value.bool hk46 : Value.bool _ = _)) ?_
      refine r_skip (r_inBlock (r_region' ?_))
      refine l_q (q_move (v := .int _ _) rfl rfl) ?_
      refine l_q (q_add rfl rfl (by omega) rfl) ?_
      refine l_q (q_assign (v := .int _ _) rfl rfl) ?_
      refine l_nil ?_
      exact ih24 (c + 1) _ _ ⟨⟨rfl, rfl, (vint_eq (by omega)), trivial⟩, (by omega), hb1, hb2, hlg13, hr15_0, hlg16, hr18_0, hsz, hB⟩ (by first | omega | (dsimp only; omega))
     ·
      replace hc44 := df hc44
      refine l_q (q_skip rfl) ?_
      refine l_q (q_skip rfl) ?_
      refine l_q (q_pick_f (v := .bool _) rfl rfl rfl) ?_
      refine l_q (q_pick_f (v := .bool _) rfl rfl rfl) ?_
      refine l_nil ?_
      refine r_forget [(1, .pointer _), (3, .pointer _), (8, .int _ _), (110, .bool _)] ⟨rfl, rfl, rfl, rfl, trivial⟩ (fun e47 => ?_)
      refine r_cond_f rfl ?_
      refine r_skip (r_inBlock (r_region' ?_))
      refine l_q (q_move (v := .int _ _) rfl rfl) ?_
      refine l_q (q_add rfl rfl (by omega) rfl) ?_
      refine l_q (q_assign (v := .int _ _) rfl rfl) ?_
      refine l_nil ?_
      exact ih24 (c + 1) _ _ ⟨⟨rfl, rfl, (vint_eq (by omega)), trivial⟩, (by omega), hb1, hb2, hlg13, hr15_0, hlg16, hr18_0, hsz, hB⟩ (by first | omega | (dsimp only; omega))
    ·
     replace hc25 := dlt hc25
     refine r_exit rfl ?_
     refine r_seq (r_region' ?_)
     refine l_o (o_call Tryz.call18 rfl (awake6_ret _) rfl ?_)
     rintro _ w48 ⟨rfl, hE48⟩
     replace hB := below_ext hB hE48 hsz
     replace hsz := Nat.le_trans hsz hE48.size
     refine l_q (q_assign (v := .bool _) rfl rfl) ?_
     refine l_nil ?_
     refine r_ret_ (vs := [.bool _]) rfl Tryz.func7 rfl (.nil _) ⟨rfl, trivial⟩ ?_
     exact ⟨rfl, Ext.of_below hB⟩
end Go.Proofs.YtekkdhpgcilpdaaGreat
