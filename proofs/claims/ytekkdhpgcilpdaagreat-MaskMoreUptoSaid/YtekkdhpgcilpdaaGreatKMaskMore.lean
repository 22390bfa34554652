/- Contracts. -/
import Derived.Test.YtekkdhpgcilpdaaGreatM17
set_option linter.unusedVariables false
set_option linter.unusedSimpArgs false
namespace Go.Proofs.YtekkdhpgcilpdaaGreat
open Go Go.RowKit Go.Gv Go.Fl

theorem el61 : Elem Tryz.prog 61 (.agg ⟨[vint 0, vint 0, vstr []]⟩) 3 32 := elem_of (by kernel_rfl) rfl (by decide)
set_option maxHeartbeats 1000000 in
theorem maskMore_ret (ka : Option Addr) (kc : Nat) (co : List Sg) (er : Int) (sa : Option Addr) (sc : Nat) (se : List Int) (ja : Option Addr) (jc : Nat) (sl : List SN) (ra : Option Addr) (rc : Nat) (rl : List RC) (q : RC) (w : World) (hlg : LgAt w ka kc co sa sc se ja jc sl ra rc rl) (hbg : LgBig co er se sl rl) (hqs : q.s.length ≤ 1048576) (hrl1 : rl.length ≤ 1048576) : Ret Tryz.prog 9 [.agg ⟨[.slice ka co.length kc, vint er, .slice sa se.length sc, .slice ja sl.length jc, .slice ra rl.length rc]⟩, .agg ⟨[vint q.h, vint q.st, vstr q.s]⟩] w (fun v w' => v = .bool true ∧ Ext w w') := by
 obtain ⟨⟨hcn, hcl⟩, hen, hsn, ⟨hjn, hjl⟩, hrn, hrl⟩ := id hbg
 have hB := Below.refl w.heap.size w
 have hsz : w.heap.size ≤ w.heap.size := Nat.le_refl _
 refine ret_of_runs (args := [_, _]) Tryz.func9 rfl (Nat.le_of_ble_eq_true rfl) (by kernel_rfl) ?_
 refine r_seq (r_region' ?_)
 refine l_o (o_boxt rfl rfl rfl ?_)
 intro b1 w1 hzl1 hzr1 _ hb1 hty_b1 hE1
 have hbs_b1 : w.heap.size ≤ b1 := Nat.le_trans hsz hzl1
 replace hB := below_ext hB hE1 hsz
 replace hsz := Nat.le_trans hsz hE1.size
 refine l_o (o_boxt rfl rfl rfl ?_)
 intro b2 w2 hzl2 hzr2 _ hb2 hty_b2 hE2
 have hne_b1_b2 : b1 ≠ b2 := by have := hb1.lt; omega
 have hbs_b2 : w.heap.size ≤ b2 := Nat.le_trans hsz hzl2
 replace hB := below_ext hB hE2 hsz
 replace hb1 := hb1.ext hE2
 replace hty_b1 := hty_b1.ext hE2
 replace hsz := Nat.le_trans hsz hE2.size
 refine l_q (q_assign (v := .bool _) rfl rfl) ?_
 refine l_nil (r_seq (r_region' ?_))
 refine l_q (q_load_agg (n := 5) Tryz.isAgg29 Tryz.sizeOf29 rfl ((hb1.cells' (cs' := [_, _, _, _, _]) 0 5 rfl)) rfl rfl) ?_
 refine l_o (o_alloct Tryz.zeroValue29 rfl rfl ?_)
 intro b3 w3 hzl3 hzr3 _ hb3 hty_b3 hE3
 have hne_b1_b3 : b1 ≠ b3 := by have := hb1.lt; omega
 have hne_b2_b3 : b2 ≠ b3 := by have := hb2.lt; omega
 have hbs_b3 : w.heap.size ≤ b3 := Nat.le_trans hsz hzl3
 replace hB := below_ext hB hE3 hsz
 replace hb1 := hb1.ext hE3
 replace hty_b1 := hty_b1.ext hE3
 replace hb2 := hb2.ext hE3
 replace hsz := Nat.le_trans hsz hE3.size
 refine l_o (o_storet (vs := [.slice ka co.length kc, vint er, .slice sa se.length sc, .slice ja sl.length jc, .slice ra rl.length rc]) (cs' := [.slice ka co.length kc, vint er, .slice sa se.length sc, .slice ja sl.length jc, .slice ra rl.length rc]) Tryz.sizeOf29 rfl rfl rfl rfl hb3 (Nat.le_of_ble_eq_true rfl) rfl rfl ?_)
 intro w4 hz4 hb3 hT4 hG4
 replace hB := below_upd hB hG4 hsz (by omega)
 replace hsz : w.heap.size ≤ w4.heap.size := by rw [hz4]; exact hsz
 replace hb1 := hb1.upd hG4 (by omega)
 replace hty_b1 := hty_b1.upd hG4 (by omega)
 replace hb2 := hb2.upd hG4 (by omega)
 replace hty_b3 := hT4 _ hty_b3
 refine l_nil (r_seq ?_)
 refine r_ifj (α := (Option Addr) × Nat) (fun ⟨oa, oc⟩ e wl => Knows e [(2, ptr b1 0), (5, ptr b3 0)] ∧ (Blk wl b3 [.slice ka co.length kc, vint er, .slice sa se.length sc, .slice ja sl.length jc, .slice oa ((([] ++ rl) ++ ([⟨q.h, q.st, q.s⟩] : List RC)).length) oc]) ∧ (Row wl oa ((([] ++ rl) ++ ([⟨q.h, q.st, q.s⟩] : List RC)).length) oc 3 ((([] ++ rl) ++ ([⟨q.h, q.st, q.s⟩] : List RC)).flatMap RC.enc)) ∧ (Blk wl b1 [.slice ka co.length kc, vint er, .slice sa se.length sc, .slice ja sl.length jc, .slice ra rl.length rc]) ∧ (TyAt wl b1 29) ∧ (Blk wl b2 [vint q.h, vint q.st, vstr q.s]) ∧ (TyAt wl b3 29) ∧ (w.heap.size ≤ wl.heap.size) ∧ (Below w.heap.size w wl)) ?_ ?_
 ·
  rintro ⟨oa, oc⟩ el5 wl5 ⟨hkn, hb3, hor, hb1, hty_b1, hb2, hty_b3, hsz, hB⟩
  obtain ⟨e5, rfl⟩ := knows_env hkn
  refine r_seq (r_seq (r_region' ?_))
  refine l_q (q_load_agg (n := 5) Tryz.isAgg29 Tryz.sizeOf29 rfl ((hb1.cells' (cs' := [_, _, _, _, _]) 0 5 rfl)) rfl rfl) ?_
  refine l_o (o_call Tryz.call34 rfl (ready6_ret ka kc co er sa sc se ja jc sl ra rc rl _ (hlg.below hB) hbg) rfl ?_)
  rintro _ w6 ⟨bb6, rfl, hrdy, hE6⟩
  replace hB := below_ext hB hE6 hsz
  replace hb1 := hb1.ext hE6
  replace hty_b1 := hty_b1.ext hE6
  replace hb2 := hb2.ext hE6
  replace hb3 := hb3.ext hE6
  replace hty_b3 := hty_b3.ext hE6
  replace hor := hor.ext hE6
  replace hsz := Nat.le_trans hsz hE6.size
  refine l_q (q_not rfl rfl) ?_
  refine l_q (q_move (v := .bool _) rfl rfl) ?_
  refine l_part 27 rfl (fun hc7 => ?_) (fun hc7 => ?_)
  ·
   replace hc7 := nt hc7
   refine l_q (q_skip rfl) ?_
   refine l_q (q_skip rfl) ?_
   refine l_q (q_skip rfl) ?_
   refine l_q (q_pick_t (v := .bool _) rfl rfl rfl) ?_
   refine l_nil ?_
   refine r_cond_t rfl ?_
   refine r_seq (r_region' ?_)
   refine l_o (o_call Tryz.call18 rfl (awake6_ret _) rfl ?_)
   rintro _ w8 ⟨rfl, hE8⟩
   replace hB := below_ext hB hE8 hsz
   replace hb1 := hb1.ext hE8
   replace hty_b1 := hty_b1.ext hE8
   replace hb2 := hb2.ext hE8
   replace hb3 := hb3.ext hE8
   replace hty_b3 := hty_b3.ext hE8
   replace hor := hor.ext hE8
   replace hsz := Nat.le_trans hsz hE8.size
   refine l_q (q_assign (v := .bool _) rfl rfl) ?_
   refine l_nil ?_
   refine r_forget [(4, .bool _)] ⟨rfl, trivial⟩ (fun e9 => ?_)
   refine r_ret_ (vs := [.bool _]) rfl Tryz.func9 rfl (.nil _) ⟨rfl, trivial⟩ ?_
   exact ⟨rfl, Ext.of_below hB⟩
  ·
   replace hc7 := nf hc7
   have hok := hrdy (by simpa using hc7)
   refine l_q (q_load_agg (n := 5) Tryz.isAgg29 Tryz.sizeOf29 rfl ((hb3.cells' (cs' := [_, _, _, _, _]) 0 5 rfl)) rfl rfl) ?_
   refine l_o (o_call Tryz.call34 rfl (ready6_ret ka kc co er sa sc se ja jc sl oa oc (([] ++ rl) ++ ([⟨q.h, q.st, q.s⟩] : List RC)) _ ⟨(hlg.rco.below hB), (hlg.rse.below hB), (hlg.rsl.below hB), (hlg.rslr.below hB), hor⟩ (more_big hbg hqs hrl1)) rfl ?_)
   rintro _ w10 ⟨bb10, rfl, hrdy, hE10⟩
   replace hB := below_ext hB hE10 hsz
   replace hb1 := hb1.ext hE10
   replace hty_b1 := hty_b1.ext hE10
   replace hb2 := hb2.ext hE10
   replace hb3 := hb3.ext hE10
   replace hty_b3 := hty_b3.ext hE10
   replace hor := hor.ext hE10
   replace hsz := Nat.le_trans hsz hE10.size
   refine l_q (q_not rfl rfl) ?_
   refine l_q (q_pick_f (v := .bool _) rfl rfl rfl) ?_
   refine l_nil ?_
   refine r_cond rfl (fun hc11 => ?_) (fun hc11 => ?_)
   ·
    replace hc11 := nt hc11
    refine r_seq (r_region' ?_)
    refine l_o (o_call Tryz.call18 rfl (awake6_ret _) rfl ?_)
    rintro _ w12 ⟨rfl, hE12⟩
    replace hB := below_ext hB hE12 hsz
    replace hb1 := hb1.ext hE12
    replace hty_b1 := hty_b1.ext hE12
    replace hb2 := hb2.ext hE12
    replace hb3 := hb3.ext hE12
    replace hty_b3 := hty_b3.ext hE12
    replace hor := hor.ext hE12
    replace hsz := Nat.le_trans hsz hE12.size
    refine l_q (q_assign (v := .bool _) rfl rfl) ?_
    refine l_nil ?_
    refine r_forget [(4, .bool _)] ⟨rfl, trivial⟩ (fun e13 => ?_)
    refine r_ret_ (vs := [.bool _]) rfl Tryz.func9 rfl (.nil _) ⟨rfl, trivial⟩ ?_
    exact ⟨rfl, Ext.of_below hB⟩
   ·
    replace hc11 := nf hc11
    have hok2 := hrdy (by simpa using hc11)
    have h1m : OneMore (lg co er se sl rl) (lg co er se sl (([] ++ rl) ++ ([⟨q.h, q.st, q.s⟩] : List RC))) := ⟨rfl, rfl, rfl, rfl, ⟨q.h, q.st, q.s⟩, rfl⟩
    have hlv := more_leave h1m (by have := (lg_ok hok).2.2.1; omega)
    have hd1 := verd_0 hok
    have hd2 := verd_0 hok2
    rw [← leav_1 hok] at hd1 hlv
    rw [← leav_1 hok2] at hd2 hlv
    have hvb1 := verd_b hd1
    have hvb2 := verd_b hd2
    refine r_skip (r_seq (r_region' ?_))
    refine l_q (q_load_agg (n := 5) Tryz.isAgg29 Tryz.sizeOf29 rfl ((hb1.cells' (cs' := [_, _, _, _, _]) 0 5 rfl)) rfl rfl) ?_
    refine l_o (o_call Tryz.call20 rfl (log6_ret ka kc co er sa sc se ja jc sl ra rc rl _ (hlg.below hB) hbg) rfl ?_)
    rintro _ w14 ⟨qka14, qkc14, qsa14, qsc14, qja14, qjc14, qsl14, qra14, qrc14, rfl, hlg14, hm14, hE14⟩
    replace hB := below_ext hB hE14 hsz
    replace hb1 := hb1.ext hE14
    replace hty_b1 := hty_b1.ext hE14
    replace hb2 := hb2.ext hE14
    replace hb3 := hb3.ext hE14
    replace hty_b3 := hty_b3.ext hE14
    replace hor := hor.ext hE14
    replace hsz := Nat.le_trans hsz hE14.size
    have hv15 := leave6_ret qka14 qkc14 co er qsa14 qsc14 se qja14 qjc14 qsl14 qra14 qrc14 rl  w14 hlg14 (big_same hm14 hbg) 
    rw [lg_same hm14] at hv15
    refine l_o (o_call Tryz.call32 rfl (hv15) rfl ?_)
    rintro _ w16 ⟨a16_0, c16_0, rfl, hr16_0, hE16⟩
    replace hB := below_ext hB hE16 hsz
    replace hb1 := hb1.ext hE16
    replace hty_b1 := hty_b1.ext hE16
    replace hb2 := hb2.ext hE16
    replace hb3 := hb3.ext hE16
    replace hty_b3 := hty_b3.ext hE16
    replace hor := hor.ext hE16
    replace hlg14 := hlg14.ext hE16
    replace hsz := Nat.le_trans hsz hE16.size
    refine l_q (q_move (v := .tuple _) rfl rfl) ?_
    refine l_q (q_extract (vs := [_, _]) (v := .slice _ _ _) rfl rfl rfl) ?_
    refine l_q (q_extract (vs := [_, _]) (v := .int _ _) rfl rfl rfl) ?_
    refine l_q (q_assign (v := .slice _ _ _) rfl rfl) ?_
    refine l_q (q_assign (v := .int _ _) rfl rfl) ?_
    refine l_nil ?_
    refine r_forget [(2, .pointer _), (5, .pointer _), (6, .slice _ _ _), (7, .int _ _)] ⟨rfl, rfl, rfl, rfl, trivial⟩ (fun e17 => ?_)
    refine r_seq (r_region' ?_)
    refine l_q (q_load_agg (n := 5) Tryz.isAgg29 Tryz.sizeOf29 rfl ((hb3.cells' (cs' := [_, _, _, _, _]) 0 5 rfl)) rfl rfl) ?_
    refine l_o (o_call Tryz.call20 rfl (log6_ret ka kc co er sa sc se ja jc sl oa oc (([] ++ rl) ++ ([⟨q.h, q.st, q.s⟩] : List RC)) _ ⟨(hlg.rco.below hB), (hlg.rse.below hB), (hlg.rsl.below hB), (hlg.rslr.below hB), hor⟩ (more_big hbg hqs hrl1)) rfl ?_)
    rintro _ w18 ⟨qka18, qkc18, qsa18, qsc18, qja18, qjc18, qsl18, qra18, qrc18, rfl, hlg18, hm18, hE18⟩
    replace hB := below_ext hB hE18 hsz
    replace hb1 := hb1.ext hE18
    replace hty_b1 := hty_b1.ext hE18
    replace hb2 := hb2.ext hE18
    replace hb3 := hb3.ext hE18
    replace hty_b3 := hty_b3.ext hE18
    replace hor := hor.ext hE18
    replace hlg14 := hlg14.ext hE18
    replace hr16_0 := hr16_0.ext hE18
    replace hsz := Nat.le_trans hsz hE18.size
    have hv19 := leave6_ret qka18 qkc18 co er qsa18 qsc18 se qja18 qjc18 qsl18 qra18 qrc18 (([] ++ rl) ++ ([⟨q.h, q.st, q.s⟩] : List RC))  w18 hlg18 (big_same hm18 (more_big hbg hqs hrl1)) 
    rw [lg_same hm18] at hv19
    refine l_o (o_call Tryz.call32 rfl (hv19) rfl ?_)
    rintro _ w20 ⟨a20_0, c20_0, rfl, hr20_0, hE20⟩
    replace hB := below_ext hB hE20 hsz
    replace hb1 := hb1.ext hE20
    replace hty_b1 := hty_b1.ext hE20
    replace hb2 := hb2.ext hE20
    replace hb3 := hb3.ext hE20
    replace hty_b3 := hty_b3.ext hE20
    replace hor := hor.ext hE20
    replace hlg14 := hlg14.ext hE20
    replace hr16_0 := hr16_0.ext hE20
    replace hlg18 := hlg18.ext hE20
    replace hsz := Nat.le_trans hsz hE20.size
    refine l_q (q_move (v := .tuple _) rfl rfl) ?_
    refine l_q (q_extract (vs := [_, _]) (v := .slice _ _ _) rfl rfl rfl) ?_
    refine l_q (q_extract (vs := [_, _]) (v := .int _ _) rfl rfl rfl) ?_
    refine l_q (q_assign (v := .slice _ _ _) rfl rfl) ?_
    refine l_q (q_assign (v := .int _ _) rfl rfl) ?_
    refine l_nil (r_seq (r_region' ?_))
    refine l_q (q_load_agg (n := 5) Tryz.isAgg29 Tryz.sizeOf29 rfl ((hb1.cells' (cs' := [_, _, _, _, _]) 0 5 rfl)) rfl rfl) ?_
    refine l_o (o_call Tryz.call20 rfl (log6_ret ka kc co er sa sc se ja jc sl ra rc rl _ (hlg.below hB) hbg) rfl ?_)
    rintro _ w21 ⟨qka21, qkc21, qsa21, qsc21, qja21, qjc21, qsl21, qra21, qrc21, rfl, hlg21, hm21, hE21⟩
    replace hB := below_ext hB hE21 hsz
    replace hb1 := hb1.ext hE21
    replace hty_b1 := hty_b1.ext hE21
    replace hb2 := hb2.ext hE21
    replace hb3 := hb3.ext hE21
    replace hty_b3 := hty_b3.ext hE21
    replace hor := hor.ext hE21
    replace hlg14 := hlg14.ext hE21
    replace hr16_0 := hr16_0.ext hE21
    replace hlg18 := hlg18.ext hE21
    replace hr20_0 := hr20_0.ext hE21
    replace hsz := Nat.le_trans hsz hE21.size
    have hv22 := verdicts6_ret qka21 qkc21 co er qsa21 qsc21 se qja21 qjc21 qsl21 qra21 qrc21 rl  w21 hlg21 (big_same hm21 hbg) 
    rw [lg_same hm21] at hv22
    refine l_o (o_call Tryz.call35 rfl (hv22) rfl ?_)
    rintro _ w23 ⟨a23_0, c23_0, rfl, hr23_0, hE23⟩
    replace hB := below_ext hB hE23 hsz
    replace hb1 := hb1.ext hE23
    replace hty_b1 := hty_b1.ext hE23
    replace hb2 := hb2.ext hE23
    replace hb3 := hb3.ext hE23
    replace hty_b3 := hty_b3.ext hE23
    replace hor := hor.ext hE23
    replace hlg14 := hlg14.ext hE23
    replace hr16_0 := hr16_0.ext hE23
    replace hlg18 := hlg18.ext hE23
    replace hr20_0 := hr20_0.ext hE23
    replace hlg21 := hlg21.ext hE23
    replace hsz := Nat.le_trans hsz hE23.size
    refine l_q (q_move (v := .tuple _) rfl rfl) ?_
    refine l_q (q_extract (vs := [_, _]) (v := .slice _ _ _) rfl rfl rfl) ?_
    refine l_q (q_extract (vs := [_, _]) (v := .int _ _) rfl rfl rfl) ?_
    refine l_q (q_assign (v := .slice _ _ _) rfl rfl) ?_
    refine l_q (q_assign (v := .int _ _) rfl rfl) ?_
    refine l_nil ?_
    refine r_forget [(2, .pointer _), (5, .pointer _), (6, .slice _ _ _), (7, .int _ _), (8, .slice _ _ _), (9, .int _ _), (10, .slice _ _ _), (11, .int _ _)] ⟨rfl, rfl, rfl, rfl, rfl, rfl, rfl, rfl, trivial⟩ (fun e24 => ?_)
    refine r_seq (r_region' ?_)
    refine l_q (q_load_agg (n := 5) Tryz.isAgg29 Tryz.sizeOf29 rfl ((hb3.cells' (cs' := [_, _, _, _, _]) 0 5 rfl)) rfl rfl) ?_
    refine l_o (o_call Tryz.call20 rfl (log6_ret ka kc co er sa sc se ja jc sl oa oc (([] ++ rl) ++ ([⟨q.h, q.st, q.s⟩] : List RC)) _ ⟨(hlg.rco.below hB), (hlg.rse.below hB), (hlg.rsl.below hB), (hlg.rslr.below hB), hor⟩ (more_big hbg hqs hrl1)) rfl ?_)
    rintro _ w25 ⟨qka25, qkc25, qsa25, qsc25, qja25, qjc25, qsl25, qra25, qrc25, rfl, hlg25, hm25, hE25⟩
    replace hB := below_ext hB hE25 hsz
    replace hb1 := hb1.ext hE25
    replace hty_b1 := hty_b1.ext hE25
    replace hb2 := hb2.ext hE25
    replace hb3 := hb3.ext hE25
    replace hty_b3 := hty_b3.ext hE25
    replace hor := hor.ext hE25
    replace hlg14 := hlg14.ext hE25
    replace hr16_0 := hr16_0.ext hE25
    replace hlg18 := hlg18.ext hE25
    replace hr20_0 := hr20_0.ext hE25
    replace hlg21 := hlg21.ext hE25
    replace hr23_0 := hr23_0.ext hE25
    replace hsz := Nat.le_trans hsz hE25.size
    have hv26 := verdicts6_ret qka25 qkc25 co er qsa25 qsc25 se qja25 qjc25 qsl25 qra25 qrc25 (([] ++ rl) ++ ([⟨q.h, q.st, q.s⟩] : List RC))  w25 hlg25 (big_same hm25 (more_big hbg hqs hrl1)) 
    rw [lg_same hm25] at hv26
    refine l_o (o_call Tryz.call35 rfl (hv26) rfl ?_)
    rintro _ w27 ⟨a27_0, c27_0, rfl, hr27_0, hE27⟩
    replace hB := below_ext hB hE27 hsz
    replace hb1 := hb1.ext hE27
    replace hty_b1 := hty_b1.ext hE27
    replace hb2 := hb2.ext hE27
    replace hb3 := hb3.ext hE27
    replace hty_b3 := hty_b3.ext hE27
    replace hor := hor.ext hE27
    replace hlg14 := hlg14.ext hE27
    replace hr16_0 := hr16_0.ext hE27
    replace hlg18 := hlg18.ext hE27
    replace hr20_0 := hr20_0.ext hE27
    replace hlg21 := hlg21.ext hE27
    replace hr23_0 := hr23_0.ext hE27
    replace hlg25 := hlg25.ext hE27
    replace hsz := Nat.le_trans hsz hE27.size
    refine l_q (q_move (v := .tuple _) rfl rfl) ?_
    refine l_q (q_extract (vs := [_, _]) (v := .slice _ _ _) rfl rfl rfl) ?_
    refine l_q (q_extract (vs := [_, _]) (v := .int _ _) rfl rfl rfl) ?_
    refine l_q (q_assign (v := .slice _ _ _) rfl rfl) ?_
    refine l_q (q_assign (v := .int _ _) rfl rfl) ?_
    refine l_nil (r_seq (r_seq (r_region' ?_)))
    refine l_q (q_move (v := .int _ _) rfl rfl) ?_
    refine l_q (q_neq rfl rfl rfl) ?_
    refine l_q (q_move (v := .bool _) rfl rfl) ?_
    have hk28 : (!decide (((leavW (lg co er se sl rl)).2) = 0)) = false := by rw [leav_0 hok]; rfl
    refine l_part 59 rfl (fun hx => absurd (hk28.symm.trans hx) (by decide)) (fun _ => ?_)
    refine l_q (q_move (v := .int _ _) rfl rfl) ?_
    refine l_q (q_neq rfl rfl rfl) ?_
    refine l_q (q_pick_f (v := .bool _) rfl rfl rfl) ?_
    refine l_q (q_move (v := .bool _) rfl rfl) ?_
    have hk29 : (!decide (((leavW (lg co er se sl (([] ++ rl) ++ ([⟨q.h, q.st, q.s⟩] : List RC)))).2) = 0)) = false := by rw [leav_0 hok2]; rfl
    refine l_part 63 rfl (fun hx => absurd (hk29.symm.trans hx) (by decide)) (fun _ => ?_)
    refine l_q (q_move (v := .slice _ _ _) rfl rfl) ?_
    refine l_q (q_len rfl Tryz.underlying25 rfl rfl) ?_
    refine l_q (q_move (v := .slice _ _ _) rfl rfl) ?_
    refine l_q (q_len rfl Tryz.underlying25 rfl rfl) ?_
    refine l_q (q_lss rfl rfl rfl) ?_
    refine l_q (q_pick_f (v := .bool _) rfl rfl rfl) ?_
    refine l_q (q_move (v := .bool _) rfl rfl) ?_
    have hk30 : (decide ((((leavW (lg co er se sl (([] ++ rl) ++ ([⟨q.h, q.st, q.s⟩] : List RC)))).1).length : Int) < (((leavW (lg co er se sl rl)).1).length : Int))) = false := decide_eq_false (by omega)
    refine l_part 70 rfl (fun hx => absurd (hk30.symm.trans hx) (by decide)) (fun _ => ?_)
    refine l_q (q_move (v := .int _ _) rfl rfl) ?_
    refine l_q (q_eql rfl rfl rfl) ?_
    refine l_q (q_move (v := .slice _ _ _) rfl rfl) ?_
    refine l_q (q_len rfl Tryz.underlying25 rfl rfl) ?_
    refine l_q (q_eql rfl rfl rfl) ?_
    refine l_q (q_neq_bool Tryz.underlying4 rfl rfl rfl) ?_
    refine l_q (q_pick_f (v := .bool _) rfl rfl rfl) ?_
    refine l_q (q_move (v := .bool _) rfl rfl) ?_
    have hk31 : (!((decide (((verdW (lg co er se sl rl)).2) = 0)) == (decide ((((leavW (lg co er se sl rl)).1).length : Int) = 0)))) = false := by rw [hvb1]; simp
    refine l_part 78 rfl (fun hx => absurd (hk31.symm.trans hx) (by decide)) (fun _ => ?_)
    refine l_q (q_move (v := .int _ _) rfl rfl) ?_
    refine l_q (q_eql rfl rfl rfl) ?_
    refine l_q (q_move (v := .slice _ _ _) rfl rfl) ?_
    refine l_q (q_len rfl Tryz.underlying25 rfl rfl) ?_
    refine l_q (q_eql rfl rfl rfl) ?_
    refine l_q (q_neq_bool Tryz.underlying4 rfl rfl rfl) ?_
    refine l_q (q_pick_f (v := .bool _) rfl rfl rfl) ?_
    refine l_nil ?_
    refine r_forget [(2, .pointer _), (5, .pointer _), (10, .slice _ _ _), (11, .int _ _), (12, .slice _ _ _), (13, .int _ _), (85, .bool _)] ⟨rfl, rfl, rfl, rfl, rfl, rfl, rfl, trivial⟩ (fun e32 => ?_)
    have hk33 : (!((decide (((verdW (lg co er se sl (([] ++ rl) ++ ([⟨q.h, q.st, q.s⟩] : List RC)))).2) = 0)) == (decide ((((leavW (lg co er se sl (([] ++ rl) ++ ([⟨q.h, q.st, q.s⟩] : List RC)))).1).length : Int) = 0)))) = false := by rw [hvb2]; simp
    refine r_cond_f ((congrArg Value.bool hk33 : Value.bool _ = _)) ?_
    refine r_skip (r_seq (r_seq (r_region' ?_)))
    refine l_q (q_move (v := .int _ _) rfl rfl) ?_
    refine l_q (q_neq rfl rfl rfl) ?_
    refine l_nil ?_
    refine r_cond rfl (fun hc34 => ?_) (fun hc34 => ?_)
    ·
     replace hc34 := df (nt hc34)
     have hvx := vd_err hok2 (by have := hc34; simpa using this)
     refine r_seq (r_region' ?_)
     refine l_q (q_move (v := .int _ _) rfl rfl) ?_
     refine l_q (q_eql rfl rfl rfl) ?_
     refine l_q (q_move (v := .bool _) rfl rfl) ?_
     have hk35 : (decide (((verdW (lg co er se sl (([] ++ rl) ++ ([⟨q.h, q.st, q.s⟩] : List RC)))).2) = 11)) = true := by rw [hvx.1]; rfl
     refine l_part 90 rfl (fun _ => ?_) (fun hx => absurd (hk35.symm.trans hx) (by decide))
     refine l_o (o_call Tryz.call18 rfl (awake6_ret _) rfl ?_)
     rintro _ w36 ⟨rfl, hE36⟩
     replace hB := below_ext hB hE36 hsz
     replace hb1 := hb1.ext hE36
     replace hty_b1 := hty_b1.ext hE36
     replace hb2 := hb2.ext hE36
     replace hb3 := hb3.ext hE36
     replace hty_b3 := hty_b3.ext hE36
     replace hor := hor.ext hE36
     replace hlg14 := hlg14.ext hE36
     replace hr16_0 := hr16_0.ext hE36
     replace hlg18 := hlg18.ext hE36
     replace hr20_0 := hr20_0.ext hE36
     replace hlg21 := hlg21.ext hE36
     replace hr23_0 := hr23_0.ext hE36
     replace hlg25 := hlg25.ext hE36
     replace hr27_0 := hr27_0.ext hE36
     replace hsz := Nat.le_trans hsz hE36.size
     refine l_q (q_pick_t (v := .bool _) rfl rfl rfl) ?_
     refine l_q (q_assign (v := .bool _) rfl rfl) ?_
     refine l_nil ?_
     refine r_forget [(4, .bool _)] ⟨rfl, trivial⟩ (fun e37 => ?_)
     refine r_ret_ (vs := [.bool _]) rfl Tryz.func9 rfl (.nil _) ⟨rfl, trivial⟩ ?_
     exact ⟨rfl, Ext.of_below hB⟩
    ·
     replace hc34 := dt (nf hc34)
     have hv2 : (verdW (lg co er se sl (([] ++ rl) ++ ([⟨q.h, q.st, q.s⟩] : List RC)))).2 = 0 := by have := hc34; simpa using this
     obtain ⟨hvX, hneX, hallX⟩ := vd_ok hok2 hv2
     have hl2 := hd2.1 hv2
     have hv1 : (verdW (lg co er se sl rl)).2 = 0 := hd1.2 (List.length_eq_zero_iff.1 (by rw [hl2] at hlv; simpa using hlv))
     obtain ⟨hvL, hneL, hallL⟩ := vd_ok hok hv1
     have hcl : (verdW (lg co er se sl rl)).1.length = rl.length := by rw [hvL]; simp [lgR]
     have hcx : (verdW (lg co er se sl (([] ++ rl) ++ ([⟨q.h, q.st, q.s⟩] : List RC)))).1.length = rl.length + 1 := by rw [hvX]; simp [lgR]
     refine r_skip (r_seq (r_seq (r_region' ?_)))
     refine l_q (q_move (v := .int _ _) rfl rfl) ?_
     refine l_q (q_neq rfl rfl rfl) ?_
     refine l_q (q_move (v := .bool _) rfl rfl) ?_
     have hk38 : (!decide (((verdW (lg co er se sl rl)).2) = 0)) = false := by rw [hv1]; rfl
     refine l_part 95 rfl (fun hx => absurd (hk38.symm.trans hx) (by decide)) (fun _ => ?_)
     refine l_q (q_move (v := .slice _ _ _) rfl rfl) ?_
     refine l_q (q_len rfl Tryz.underlying25 rfl rfl) ?_
     refine l_q (q_fieldAddr (o' := 4) rfl fld29_4 rfl) ?_
     refine l_q (q_load Tryz.isAgg27 rfl ((hb1.has (o := 4) rfl)) rfl) ?_
     refine l_q (q_len rfl Tryz.underlying27 rfl rfl) ?_
     refine l_q (q_neq rfl rfl rfl) ?_
     refine l_q (q_pick_f (v := .bool _) rfl rfl rfl) ?_
     refine l_q (q_move (v := .bool _) rfl rfl) ?_
     have hk39 : (!decide ((((verdW (lg co er se sl rl)).1).length : Int) = (rl.length : Int))) = false := by rw [hcl]; simp
     refine l_part 103 rfl (fun hx => absurd (hk39.symm.trans hx) (by decide)) (fun _ => ?_)
     refine l_q (q_move (v := .slice _ _ _) rfl rfl) ?_
     refine l_q (q_len rfl Tryz.underlying25 rfl rfl) ?_
     refine l_q (q_fieldAddr (o' := 4) rfl fld29_4 rfl) ?_
     refine l_q (q_load Tryz.isAgg27 rfl ((hb3.has (o := 4) rfl)) rfl) ?_
     refine l_q (q_len rfl Tryz.underlying27 rfl rfl) ?_
     refine l_q (q_neq rfl rfl rfl) ?_
     refine l_q (q_pick_f (v := .bool _) rfl rfl rfl) ?_
     refine l_nil ?_
     refine r_forget [(10, .slice _ _ _), (12, .slice _ _ _), (110, .bool _)] ⟨rfl, rfl, rfl, trivial⟩ (fun e40 => ?_)
     have hk41 : (!decide ((((verdW (lg co er se sl (([] ++ rl) ++ ([⟨q.h, q.st, q.s⟩] : List RC)))).1).length : Int) = ((([] ++ rl) ++ ([⟨q.h, q.st, q.s⟩] : List RC)).length : Int))) = false := by rw [hcx]; simp
     refine r_cond_f ((congrArg Value.bool hk41 : Value.bool _ = _)) ?_
     refine r_skip (r_seq (r_seq (r_region' ?_)))
     refine l_q (q_assign (v := .int _ _) rfl rfl) ?_
     refine l_nil (r_block ?_)
     refine r_rounds (α := Nat) (fun c e wl => Knows e [(10, .slice a23_0 (((verdW (lg co er se sl rl)).1).length) c23_0), (12, .slice a27_0 (((verdW (lg co er se sl (([] ++ rl) ++ ([⟨q.h, q.st, q.s⟩] : List RC)))).1).length) c27_0), (14, vint (c : Int))] ∧ (c ≤ (verdW (lg co er se sl rl)).1.length) ∧ (Blk wl b1 [.slice ka co.length kc, vint er, .slice sa se.length sc, .slice ja sl.length jc, .slice ra rl.length rc]) ∧ (TyAt wl b1 29) ∧ (Blk wl b2 [vint q.h, vint q.st, vstr q.s]) ∧ (Blk wl b3 [.slice ka co.length kc, vint er, .slice sa se.length sc, .slice ja sl.length jc, .slice oa ((([] ++ rl) ++ ([⟨q.h, q.st, q.s⟩] : List RC)).length) oc]) ∧ (TyAt wl b3 29) ∧ (Row wl oa ((([] ++ rl) ++ ([⟨q.h, q.st, q.s⟩] : List RC)).length) oc 3 ((([] ++ rl) ++ ([⟨q.h, q.st, q.s⟩] : List RC)).flatMap RC.enc)) ∧ (LgAt wl qka14 qkc14 co qsa14 qsc14 se qja14 qjc14 qsl14 qra14 qrc14 rl) ∧ (Row wl a16_0 (((leavW (lg co er se sl rl)).1).length) c16_0 1 (((leavW (lg co er se sl rl)).1).map vint)) ∧ (LgAt wl qka18 qkc18 co qsa18 qsc18 se qja18 qjc18 qsl18 qra18 qrc18 (([] ++ rl) ++ ([⟨q.h, q.st, q.s⟩] : List RC))) ∧ (Row wl a20_0 (((leavW (lg co er se sl (([] ++ rl) ++ ([⟨q.h, q.st, q.s⟩] : List RC)))).1).length) c20_0 1 (((leavW (lg co er se sl (([] ++ rl) ++ ([⟨q.h, q.st, q.s⟩] : List RC)))).1).map vint)) ∧ (LgAt wl qka21 qkc21 co qsa21 qsc21 se qja21 qjc21 qsl21 qra21 qrc21 rl) ∧ (Row wl a23_0 (((verdW (lg co er se sl rl)).1).length) c23_0 1 (((verdW (lg co er se sl rl)).1).map vint)) ∧ (LgAt wl qka25 qkc25 co qsa25 qsc25 se qja25 qjc25 qsl25 qra25 qrc25 (([] ++ rl) ++ ([⟨q.h, q.st, q.s⟩] : List RC))) ∧ (Row wl a27_0 (((verdW (lg co er se sl (([] ++ rl) ++ ([⟨q.h, q.st, q.s⟩] : List RC)))).1).length) c27_0 1 (((verdW (lg co er se sl (([] ++ rl) ++ ([⟨q.h, q.st, q.s⟩] : List RC)))).1).map vint)) ∧ (w.heap.size ≤ wl.heap.size) ∧ (Below w.heap.size w wl)) (fun c => (verdW (lg co er se sl rl)).1.length - c) 0 ?_ ?_
     ·
      exact ⟨⟨rfl, rfl, rfl, trivial⟩, (Nat.zero_le _), hb1, hty_b1, hb2, hb3, hty_b3, hor, hlg14, hr16_0, hlg18, hr20_0, hlg21, hr23_0, hlg25, hr27_0, hsz, hB⟩
     ·
      rintro c el42 wl42 ⟨hkn, hkc, hb1, hty_b1, hb2, hb3, hty_b3, hor, hlg14, hr16_0, hlg18, hr20_0, hlg21, hr23_0, hlg25, hr27_0, hsz, hB⟩ ih42
      obtain ⟨e42, rfl⟩ := knows_env hkn
      refine r_seq (r_seq (r_region' ?_))
      refine l_q (q_move (v := .int _ _) rfl rfl) ?_
      refine l_q (q_move (v := .slice _ _ _) rfl rfl) ?_
      refine l_q (q_len rfl Tryz.underlying25 rfl rfl) ?_
      refine l_q (q_lss rfl rfl rfl) ?_
      refine l_nil ?_
      refine r_cond rfl (fun hc43 => ?_) (fun hc43 => ?_)
      ·
       replace hc43 := dt hc43
       have hcR : c < rl.length := by omega
       have hr1 := verd_getD hvL (r := c) hcR
       have hr2 := verd_getD hvX (r := c) (by rw [lgR]; simp; omega)
       refine r_skip (r_seq (r_block (r_seq ?_)))
       refine r_draw ext_refl' ext_trans' [0, 1, 2, 3, 4, 5, 6, 7, 8, 9, 10, 11, 12, 13, 14, 15] [] 6 (by kernel_rfl) (by kernel_rfl) ?_
       intro w44 _ hE44
       replace hB := below_ext hB hE44 hsz
       replace hb1 := hb1.ext hE44
       replace hty_b1 := hty_b1.ext hE44
       replace hb2 := hb2.ext hE44
       replace hb3 := hb3.ext hE44
       replace hty_b3 := hty_b3.ext hE44
       replace hor := hor.ext hE44
       replace hlg14 := hlg14.ext hE44
       replace hr16_0 := hr16_0.ext hE44
       replace hlg18 := hlg18.ext hE44
       replace hr20_0 := hr20_0.ext hE44
       replace hlg21 := hlg21.ext hE44
       replace hr23_0 := hr23_0.ext hE44
       replace hlg25 := hlg25.ext hE44
       replace hr27_0 := hr27_0.ext hE44
       replace hsz := Nat.le_trans hsz hE44.size
       refine m_q rfl rfl (fun w' hC' => q_move (v := .slice _ _ _) rfl rfl) ?_
       refine m_q rfl rfl (fun w' hC' => q_move (v := .int _ _) rfl rfl) ?_
       obtain ⟨b45, o45, ha45, hh45⟩ := hr23_0.at1 c (((verdW (lg co er se sl rl)).1).getD c 0) (getD_some (by omega))
       refine m_q rfl rfl (fun w' hC' => q_indexAddr1 Tryz.underlying25 Tryz.sizeOf3 rfl ha45 rfl (by omega) rfl) ?_
       refine m_q rfl rfl (fun w' hC' => q_load Tryz.isAgg3 rfl ((hh45.ext hC')) rfl) ?_
       refine m_q rfl rfl (fun w' hC' => q_neq rfl rfl rfl) ?_
       refine m_q rfl rfl (fun w' hC' => q_move (v := .bool _) rfl rfl) ?_
       refine m_part 122 rfl (fun hc46 => ?_) (fun hc46 => ?_)
       ·
        replace hc46 := df (nt hc46)
        have g3 := hc46
        refine m_q rfl rfl (fun w' hC' => q_move (v := .slice _ _ _) rfl rfl) ?_
        refine m_q rfl rfl (fun w' hC' => q_move (v := .int _ _) rfl rfl) ?_
        obtain ⟨b47, o47, ha47, hh47⟩ := hr27_0.at1 c (((verdW (lg co er se sl (([] ++ rl) ++ ([⟨q.h, q.st, q.s⟩] : List RC)))).1).getD c 0) (getD_some (by omega))
        refine m_q rfl rfl (fun w' hC' => q_indexAddr1 Tryz.underlying25 Tryz.sizeOf3 rfl ha47 rfl (by omega) rfl) ?_
        refine m_q rfl rfl (fun w' hC' => q_load Tryz.isAgg3 rfl ((hh47.ext hC')) rfl) ?_
        refine m_q rfl rfl (fun w' hC' => q_move (v := .slice _ _ _) rfl rfl) ?_
        refine m_q rfl rfl (fun w' hC' => q_move (v := .int _ _) rfl rfl) ?_
        obtain ⟨b48, o48, ha48, hh48⟩ := hr23_0.at1 c (((verdW (lg co er se sl rl)).1).getD c 0) (getD_some (by omega))
        refine m_q rfl rfl (fun w' hC' => q_indexAddr1 Tryz.underlying25 Tryz.sizeOf3 rfl ha48 rfl (by omega) rfl) ?_
        refine m_q rfl rfl (fun w' hC' => q_load Tryz.isAgg3 rfl ((hh48.ext hC')) rfl) ?_
        refine m_q rfl rfl (fun w' hC' => q_neq rfl rfl rfl) ?_
        refine m_q rfl rfl (fun w' hC' => q_pick_t (v := .bool _) rfl rfl rfl) ?_
        refine m_nil ?_
        refine r_forget [(10, .slice _ _ _), (12, .slice _ _ _), (14, .int _ _), (132, .bool _)] ⟨rfl, rfl, rfl, rfl, trivial⟩ (fun e49 => ?_)
        have hk50 : (!decide ((((verdW (lg co er se sl (([] ++ rl) ++ ([⟨q.h, q.st, q.s⟩] : List RC)))).1).getD c 0) = (((verdW (lg co er se sl rl)).1).getD c 0))) = false := by rw [hr1, hr2, more_verd h1m hcR (hallX c (by rw [lgR]; simp; omega)) (by rw [← hr1]; simpa using g3)]; simp
        refine r_cond_f ((congrArg Value.bool hk50 : Value.bool _ = _)) ?_
        refine r_skip (r_inBlock (r_region' ?_))
        refine l_q (q_move (v := .int _ _) rfl rfl) ?_
        refine l_q (q_add rfl rfl (by omega) rfl) ?_
        refine l_q (q_assign (v := .int _ _) rfl rfl) ?_
        refine l_nil ?_
        exact ih42 (c + 1) _ _ ⟨⟨rfl, rfl, (vint_eq (by omega)), trivial⟩, (by omega), hb1, hty_b1, hb2, hb3, hty_b3, hor, hlg14, hr16_0, hlg18, hr20_0, hlg21, hr23_0, hlg25, hr27_0, hsz, hB⟩ (by first | omega | (dsimp only; omega))
       ·
        replace hc46 := dt (nf hc46)
        refine m_q rfl rfl (fun w' hC' => q_skip rfl) ?_
        refine m_q rfl rfl (fun w' hC' => q_skip rfl) ?_
        refine m_q rfl rfl (fun w' hC' => q_skip rfl) ?_
        refine m_q rfl rfl (fun w' hC' => q_skip rfl) ?_
        refine m_q rfl rfl (fun w' hC' => q_skip rfl) ?_
        refine m_q rfl rfl (fun w' hC' => q_skip rfl) ?_
        refine m_q rfl rfl (fun w' hC' => q_skip rfl) ?_
        refine m_q rfl rfl (fun w' hC' => q_skip rfl) ?_
        refine m_q rfl rfl (fun w' hC' => q_skip rfl) ?_
        refine m_q rfl rfl (fun w' hC' => q_pick_f (v := .bool _) rfl rfl rfl) ?_
        refine m_nil ?_
        refine r_forget [(10, .slice _ _ _), (12, .slice _ _ _), (14, .int _ _), (132, .bool _)] ⟨rfl, rfl, rfl, rfl, trivial⟩ (fun e51 => ?_)
        refine r_cond_f rfl ?_
        refine r_skip (r_inBlock (r_region' ?_))
        refine l_q (q_move (v := .int _ _) rfl rfl) ?_
        refine l_q (q_add rfl rfl (by omega) rfl) ?_
        refine l_q (q_assign (v := .int _ _) rfl rfl) ?_
        refine l_nil ?_
        exact ih42 (c + 1) _ _ ⟨⟨rfl, rfl, (vint_eq (by omega)), trivial⟩, (by omega), hb1, hty_b1, hb2, hb3, hty_b3, hor, hlg14, hr16_0, hlg18, hr20_0, hlg21, hr23_0, hlg25, hr27_0, hsz, hB⟩ (by first | omega | (dsimp only; omega))
      ·
       replace hc43 := dlt hc43
       refine r_exit rfl ?_
       refine r_seq (r_region' ?_)
       refine l_o (o_call Tryz.call18 rfl (awake6_ret _) rfl ?_)
       rintro _ w52 ⟨rfl, hE52⟩
       replace hB := below_ext hB hE52 hsz
       replace hb1 := hb1.ext hE52
       replace hty_b1 := hty_b1.ext hE52
       replace hb2 := hb2.ext hE52
       replace hb3 := hb3.ext hE52
       replace hty_b3 := hty_b3.ext hE52
       replace hsz := Nat.le_trans hsz hE52.size
       refine l_q (q_assign (v := .bool _) rfl rfl) ?_
       refine l_nil ?_
       refine r_ret_ (vs := [.bool _]) rfl Tryz.func9 rfl (.nil _) ⟨rfl, trivial⟩ ?_
       exact ⟨rfl, Ext.of_below hB⟩
 · intro hj5
   have hszR : w.heap.size ≤ w4.heap.size := hsz
   have hszW : w4.heap.size ≤ w4.heap.size := Nat.le_refl _
   have hltR_b1 := hb1.lt
   have hltR_b2 := hb2.lt
   have hltR_b3 := hb3.lt
   refine r_draw3 (Below.refl w4.heap.size) (fun _ _ _ h1 h2 => h1.trans h2) (.op 1 (.op 2 (.op 4 (.op 7 (.fork 0 (.fork 3 (.op 5 (.op 6 (.op 8 (.done)))) (.op 5 (.op 3 (.op 6 (.op 8 (.done)))))) (.op 5 (.op 0 (.op 3 (.op 6 (.op 8 (.done))))))))))) [0, 3, 5, 6, 8, 1008] 6 (by kernel_rfl) (by kernel_rfl) ?_
   intro w53 _ hE53
   replace hB := below_ext hB hE53 hsz
   replace hb1 := hb1.ext hE53
   replace hty_b1 := hty_b1.ext hE53
   replace hb2 := hb2.ext hE53
   replace hb3 := hb3.ext hE53
   replace hty_b3 := hty_b3.ext hE53
   replace hszW := Nat.le_trans hszW hE53.size
   replace hsz := Nat.le_trans hsz hE53.size
   refine m_q3 rfl rfl (fun w' hC' => q_fieldAddr (o' := 4) rfl fld29_4 rfl) ?_
   refine m_q3 rfl rfl (fun w' hC' => q_load Tryz.isAgg27 rfl (((hb1.keep (hC'.block _ hltR_b1)).has (o := 4) rfl)) rfl) ?_
   refine m_q3 rfl rfl (fun w' hC' => q_load_agg (n := 3) Tryz.isAgg61 Tryz.sizeOf61 rfl (((hb2.keep (hC'.block _ hltR_b2)).cells' (cs' := [_, _, _]) 0 3 rfl)) rfl rfl) ?_
   refine m_q3 rfl rfl (fun w' hC' => q_fieldAddr (o' := 4) rfl fld29_4 rfl) ?_
   refine m_fork3 ?_ ?_
   ·
    have hbl_b1 := hb1.lt
    have hbl_b2 := hb2.lt
    have hbl_b3 := hb3.lt
    refine m_o3 rfl rfl (o_buildSlice (el := 61) (cs := []) Tryz.underlying27 el61 (by decide) (by kernel_rfl) rfl (by decide) rfl ?_)
    intro b54 w54 hzl54 hzr54 _ hb54 hE54 ho54
    refine ⟨(below_ext_of hE54 hszW), ?_⟩
    have hne_b1_b54 : b1 ≠ b54 := by have := hb1.lt; omega
    have hne_b2_b54 : b2 ≠ b54 := by have := hb2.lt; omega
    have hne_b3_b54 : b3 ≠ b54 := by have := hb3.lt; omega
    have hbs_b54 : w.heap.size ≤ b54 := Nat.le_trans hsz hzl54
    have hWp_b54 := hszW
    have hbW_b54 := Nat.le_trans hszW hzl54
    replace hB := below_ext hB hE54 hsz
    replace hb1 := hb1.ext hE54
    replace hty_b1 := hty_b1.ext hE54
    replace hb2 := hb2.ext hE54
    replace hb3 := hb3.ext hE54
    replace hty_b3 := hty_b3.ext hE54
    replace hszW := Nat.le_trans hszW hE54.size
    replace hsz := Nat.le_trans hsz hE54.size
    replace ho54 := own_mono ho54 (show w4.heap.size ≤ _ by omega)
    refine m_fork3 ?_ ?_
    ·
     have hbl_b1 := hb1.lt
     have hbl_b2 := hb2.lt
     have hbl_b3 := hb3.lt
     have hbo_b54 := (ho54.lt b54 rfl).2
     refine m_o3 rfl rfl (o_append_wide RC.one ([]) (rl) Tryz.underlying27 el61 rfl rfl ho54 rfl (hlg.rrl.below hB) (by (try simp only [List.length_append, List.length_cons, List.length_nil, List.length_take, List.length_drop, List.length_replicate]); omega) (by omega) rfl ?_)
     intro a56 c56 w56 hz56 ho56 hG56
     refine ⟨(below_own_of hG56 ho54 (by omega) hszW), ?_⟩
     replace hB := below_own hB hG56 ho54 (by omega) hsz
     replace hsz := Nat.le_trans hsz hG56.size
     replace hb1 := hb1.step hG56 (own_ty_ne ho54 hty_b1 (by decide))
     replace hb2 := hb2.step hG56 (own_ne ho54 (by omega))
     replace hb3 := hb3.step hG56 (own_ty_ne ho54 hty_b3 (by decide))
     replace hszW := Nat.le_trans hszW hG56.size
     replace hty_b1 := TyAt.own hty_b1 ho54 hG56 (by decide)
     replace hty_b3 := TyAt.own hty_b3 ho54 hG56 (by decide)
     have hbl_b1 := hb1.lt
     have hbl_b2 := hb2.lt
     have hbl_b3 := hb3.lt
     refine m_o3 rfl rfl (o_buildSlice (el := 61) (cs := [vint q.h, vint q.st, vstr q.s]) Tryz.underlying27 el61 (by decide) (by kernel_rfl) rfl (by decide) rfl ?_)
     intro b57 w57 hzl57 hzr57 _ hb57 hE57 ho57
     refine ⟨(below_ext_of hE57 hszW), ?_⟩
     have hne_b1_b57 : b1 ≠ b57 := by have := hb1.lt; omega
     have hne_b2_b57 : b2 ≠ b57 := by have := hb2.lt; omega
     have hne_b3_b57 : b3 ≠ b57 := by have := hb3.lt; omega
     have hbs_b57 : w.heap.size ≤ b57 := Nat.le_trans hsz hzl57
     have hWp_b57 := hszW
     have hbW_b57 := Nat.le_trans hszW hzl57
     replace hB := below_ext hB hE57 hsz
     replace hb1 := hb1.ext hE57
     replace hty_b1 := hty_b1.ext hE57
     replace hb2 := hb2.ext hE57
     replace hb3 := hb3.ext hE57
     replace hty_b3 := hty_b3.ext hE57
     replace hszW := Nat.le_trans hszW hE57.size
     replace ho56 := own_ext ho56 hE57
     replace hsz := Nat.le_trans hsz hE57.size
     replace ho57 := own_mono ho57 (show w4.heap.size ≤ _ by omega)
     have hbl_b1 := hb1.lt
     have hbl_b2 := hb2.lt
     have hbl_b3 := hb3.lt
     have hbo_b57 := (ho57.lt b57 rfl).2
     refine m_o3 rfl rfl (o_append_wide RC.one ([] ++ rl) (([⟨q.h, q.st, q.s⟩] : List RC)) Tryz.underlying27 el61 rfl rfl ho56 rfl (Row.of_owns ho57) (by (try simp only [List.length_append, List.length_cons, List.length_nil, List.length_take, List.length_drop, List.length_replicate]); omega) (by omega) rfl ?_)
     intro a59 c59 w59 hz59 ho59 hG59
     refine ⟨(below_own_of hG59 ho56 (by omega) hszW), ?_⟩
     replace hB := below_own hB hG59 ho56 (by omega) hsz
     replace hsz := Nat.le_trans hsz hG59.size
     replace hb1 := hb1.step hG59 (own_ty_ne ho56 hty_b1 (by decide))
     replace hb2 := hb2.step hG59 (own_ne ho56 (by omega))
     replace hb3 := hb3.step hG59 (own_ty_ne ho56 hty_b3 (by decide))
     replace hszW := Nat.le_trans hszW hG59.size
     replace hty_b1 := TyAt.own hty_b1 ho56 hG59 (by decide)
     replace hty_b3 := TyAt.own hty_b3 ho56 hG59 (by decide)
     refine m_last3 rfl rfl rfl (o_storet (vs := [.slice a59 ((([] ++ rl) ++ ([⟨q.h, q.st, q.s⟩] : List RC)).length) c59]) (cs' := [.slice ka co.length kc, vint er, .slice sa se.length sc, .slice ja sl.length jc, .slice a59 ((([] ++ rl) ++ ([⟨q.h, q.st, q.s⟩] : List RC)).length) c59]) Tryz.sizeOf27 rfl rfl rfl rfl hb3 (Nat.le_of_ble_eq_true rfl) rfl rfl ?_)
     intro w60 hz60 hb3 hT60 hG60
     replace hB := below_upd hB hG60 hsz (by omega)
     replace hsz : w.heap.size ≤ w60.heap.size := by rw [hz60]; exact hsz
     replace hb1 := hb1.upd hG60 (by omega)
     replace hty_b1 := hty_b1.upd hG60 (by omega)
     replace hb2 := hb2.upd hG60 (by omega)
     replace hszW := Nat.le_trans hszW hG60.size
     replace ho59 := own_ty_upd ho59 hty_b3 hG60 (by decide)
     replace hty_b3 := hT60 _ hty_b3
     refine m_nil3 ?_
     refine r_forget [(2, .pointer _), (5, .pointer _)] ⟨rfl, rfl, trivial⟩ (fun e61 => ?_)
     exact hj5 (a59, c59) _ _ ⟨⟨rfl, rfl, trivial⟩, hb3, (Row.of_owns ho59), hb1, hty_b1, hb2, hty_b3, hsz, hB⟩
    ·
     have hbl_b1 := hb1.lt
     have hbl_b2 := hb2.lt
     have hbl_b3 := hb3.lt
     have hbo_b54 := (ho54.lt b54 rfl).2
     refine m_o3 rfl rfl (o_buildSlice (el := 61) (cs := [vint q.h, vint q.st, vstr q.s]) Tryz.underlying27 el61 (by decide) (by kernel_rfl) rfl (by decide) rfl ?_)
     intro b62 w62 hzl62 hzr62 _ hb62 hE62 ho62
     refine ⟨(below_ext_of hE62 hszW), ?_⟩
     have hne_b1_b62 : b1 ≠ b62 := by have := hb1.lt; omega
     have hne_b2_b62 : b2 ≠ b62 := by have := hb2.lt; omega
     have hne_b3_b62 : b3 ≠ b62 := by have := hb3.lt; omega
     have hbs_b62 : w.heap.size ≤ b62 := Nat.le_trans hsz hzl62
     have hWp_b62 := hszW
     have hbW_b62 := Nat.le_trans hszW hzl62
     replace hB := below_ext hB hE62 hsz
     replace hb1 := hb1.ext hE62
     replace hty_b1 := hty_b1.ext hE62
     replace hb2 := hb2.ext hE62
     replace hb3 := hb3.ext hE62
     replace hty_b3 := hty_b3.ext hE62
     replace hszW := Nat.le_trans hszW hE62.size
     replace ho54 := own_ext ho54 hE62
     replace hsz := Nat.le_trans hsz hE62.size
     replace ho62 := own_mono ho62 (show w4.heap.size ≤ _ by omega)
     have hbl_b1 := hb1.lt
     have hbl_b2 := hb2.lt
     have hbl_b3 := hb3.lt
     have hbo_b54 := (ho54.lt b54 rfl).2
     have hbo_b62 := (ho62.lt b62 rfl).2
     refine m_o3 rfl rfl (o_append_wide RC.one ([]) (rl) Tryz.underlying27 el61 rfl rfl ho54 rfl (hlg.rrl.below hB) (by (try simp only [List.length_append, List.length_cons, List.length_nil, List.length_take, List.length_drop, List.length_replicate]); omega) (by omega) rfl ?_)
     intro a64 c64 w64 hz64 ho64 hG64
     refine ⟨(below_own_of hG64 ho54 (by omega) hszW), ?_⟩
     replace hB := below_own hB hG64 ho54 (by omega) hsz
     replace hsz := Nat.le_trans hsz hG64.size
     replace hb1 := hb1.step hG64 (own_ty_ne ho54 hty_b1 (by decide))
     replace hb2 := hb2.step hG64 (own_ne ho54 (by omega))
     replace hb3 := hb3.step hG64 (own_ty_ne ho54 hty_b3 (by decide))
     replace hszW := Nat.le_trans hszW hG64.size
     replace ho62 := own_updne (b := b54) ho62 hG64 (fun g hg => by have e : b62 = g := (by simpa [Value.ownBlock] using hg); omega)
     replace hty_b1 := TyAt.own hty_b1 ho54 hG64 (by decide)
     replace hty_b3 := TyAt.own hty_b3 ho54 hG64 (by decide)
     have hbl_b1 := hb1.lt
     have hbl_b2 := hb2.lt
     have hbl_b3 := hb3.lt
     have hbo_b62 := (ho62.lt b62 rfl).2
     refine m_o3 rfl rfl (o_append_wide RC.one ([] ++ rl) (([⟨q.h, q.st, q.s⟩] : List RC)) Tryz.underlying27 el61 rfl rfl ho64 rfl (Row.of_owns ho62) (by (try simp only [List.length_append, List.length_cons, List.length_nil, List.length_take, List.length_drop, List.length_replicate]); omega) (by omega) rfl ?_)
     intro a66 c66 w66 hz66 ho66 hG66
     refine ⟨(below_own_of hG66 ho64 (by omega) hszW), ?_⟩
     replace hB := below_own hB hG66 ho64 (by omega) hsz
     replace hsz := Nat.le_trans hsz hG66.size
     replace hb1 := hb1.step hG66 (own_ty_ne ho64 hty_b1 (by decide))
     replace hb2 := hb2.step hG66 (own_ne ho64 (by omega))
     replace hb3 := hb3.step hG66 (own_ty_ne ho64 hty_b3 (by decide))
     replace hszW := Nat.le_trans hszW hG66.size
     replace hty_b1 := TyAt.own hty_b1 ho64 hG66 (by decide)
     replace hty_b3 := TyAt.own hty_b3 ho64 hG66 (by decide)
     refine m_last3 rfl rfl rfl (o_storet (vs := [.slice a66 ((([] ++ rl) ++ ([⟨q.h, q.st, q.s⟩] : List RC)).length) c66]) (cs' := [.slice ka co.length kc, vint er, .slice sa se.length sc, .slice ja sl.length jc, .slice a66 ((([] ++ rl) ++ ([⟨q.h, q.st, q.s⟩] : List RC)).length) c66]) Tryz.sizeOf27 rfl rfl rfl rfl hb3 (Nat.le_of_ble_eq_true rfl) rfl rfl ?_)
     intro w67 hz67 hb3 hT67 hG67
     replace hB := below_upd hB hG67 hsz (by omega)
     replace hsz : w.heap.size ≤ w67.heap.size := by rw [hz67]; exact hsz
     replace hb1 := hb1.upd hG67 (by omega)
     replace hty_b1 := hty_b1.upd hG67 (by omega)
     replace hb2 := hb2.upd hG67 (by omega)
     replace hszW := Nat.le_trans hszW hG67.size
     replace ho66 := own_ty_upd ho66 hty_b3 hG67 (by decide)
     replace hty_b3 := hT67 _ hty_b3
     refine m_nil3 ?_
     refine r_forget [(2, .pointer _), (5, .pointer _)] ⟨rfl, rfl, trivial⟩ (fun e68 => ?_)
     exact hj5 (a66, c66) _ _ ⟨⟨rfl, rfl, trivial⟩, hb3, (Row.of_owns ho66), hb1, hty_b1, hb2, hty_b3, hsz, hB⟩
   ·
    have hbl_b1 := hb1.lt
    have hbl_b2 := hb2.lt
    have hbl_b3 := hb3.lt
    refine m_o3 rfl rfl (o_buildSlice (el := 61) (cs := [vint q.h, vint q.st, vstr q.s]) Tryz.underlying27 el61 (by decide) (by kernel_rfl) rfl (by decide) rfl ?_)
    intro b69 w69 hzl69 hzr69 _ hb69 hE69 ho69
    refine ⟨(below_ext_of hE69 hszW), ?_⟩
    have hne_b1_b69 : b1 ≠ b69 := by have := hb1.lt; omega
    have hne_b2_b69 : b2 ≠ b69 := by have := hb2.lt; omega
    have hne_b3_b69 : b3 ≠ b69 := by have := hb3.lt; omega
    have hbs_b69 : w.heap.size ≤ b69 := Nat.le_trans hsz hzl69
    have hWp_b69 := hszW
    have hbW_b69 := Nat.le_trans hszW hzl69
    replace hB := below_ext hB hE69 hsz
    replace hb1 := hb1.ext hE69
    replace hty_b1 := hty_b1.ext hE69
    replace hb2 := hb2.ext hE69
    replace hb3 := hb3.ext hE69
    replace hty_b3 := hty_b3.ext hE69
    replace hszW := Nat.le_trans hszW hE69.size
    replace hsz := Nat.le_trans hsz hE69.size
    replace ho69 := own_mono ho69 (show w4.heap.size ≤ _ by omega)
    have hbl_b1 := hb1.lt
    have hbl_b2 := hb2.lt
    have hbl_b3 := hb3.lt
    have hbo_b69 := (ho69.lt b69 rfl).2
    refine m_o3 rfl rfl (o_buildSlice (el := 61) (cs := []) Tryz.underlying27 el61 (by decide) (by kernel_rfl) rfl (by decide) rfl ?_)
    intro b70 w70 hzl70 hzr70 _ hb70 hE70 ho70
    refine ⟨(below_ext_of hE70 hszW), ?_⟩
    have hne_b1_b70 : b1 ≠ b70 := by have := hb1.lt; omega
    have hne_b2_b70 : b2 ≠ b70 := by have := hb2.lt; omega
    have hne_b3_b70 : b3 ≠ b70 := by have := hb3.lt; omega
    have hbs_b70 : w.heap.size ≤ b70 := Nat.le_trans hsz hzl70
    have hWp_b70 := hszW
    have hbW_b70 := Nat.le_trans hszW hzl70
    replace hB := below_ext hB hE70 hsz
    replace hb1 := hb1.ext hE70
    replace hty_b1 := hty_b1.ext hE70
    replace hb2 := hb2.ext hE70
    replace hb3 := hb3.ext hE70
    replace hty_b3 := hty_b3.ext hE70
    replace hszW := Nat.le_trans hszW hE70.size
    replace ho69 := own_ext ho69 hE70
    replace hsz := Nat.le_trans hsz hE70.size
    replace ho70 := own_mono ho70 (show w4.heap.size ≤ _ by omega)
    have hbl_b1 := hb1.lt
    have hbl_b2 := hb2.lt
    have hbl_b3 := hb3.lt
    have hbo_b69 := (ho69.lt b69 rfl).2
    have hbo_b70 := (ho70.lt b70 rfl).2
    refine m_o3 rfl rfl (o_append_wide RC.one ([]) (rl) Tryz.underlying27 el61 rfl rfl ho70 rfl (hlg.rrl.below hB) (by (try simp only [List.length_append, List.length_cons, List.length_nil, List.length_take, List.length_drop, List.length_replicate]); omega) (by omega) rfl ?_)
    intro a72 c72 w72 hz72 ho72 hG72
    refine ⟨(below_own_of hG72 ho70 (by omega) hszW), ?_⟩
    replace hB := below_own hB hG72 ho70 (by omega) hsz
    replace hsz := Nat.le_trans hsz hG72.size
    replace hb1 := hb1.step hG72 (own_ty_ne ho70 hty_b1 (by decide))
    replace hb2 := hb2.step hG72 (own_ne ho70 (by omega))
    replace hb3 := hb3.step hG72 (own_ty_ne ho70 hty_b3 (by decide))
    replace hszW := Nat.le_trans hszW hG72.size
    replace ho69 := own_updne (b := b70) ho69 hG72 (fun g hg => by have e : b69 = g := (by simpa [Value.ownBlock] using hg); omega)
    replace hty_b1 := TyAt.own hty_b1 ho70 hG72 (by decide)
    replace hty_b3 := TyAt.own hty_b3 ho70 hG72 (by decide)
    have hbl_b1 := hb1.lt
    have hbl_b2 := hb2.lt
    have hbl_b3 := hb3.lt
    have hbo_b69 := (ho69.lt b69 rfl).2
    refine m_o3 rfl rfl (o_append_wide RC.one ([] ++ rl) (([⟨q.h, q.st, q.s⟩] : List RC)) Tryz.underlying27 el61 rfl rfl ho72 rfl (Row.of_owns ho69) (by (try simp only [List.length_append, List.length_cons, List.length_nil, List.length_take, List.length_drop, List.length_replicate]); omega) (by omega) rfl ?_)
    intro a74 c74 w74 hz74 ho74 hG74
    refine ⟨(below_own_of hG74 ho72 (by omega) hszW), ?_⟩
    replace hB := below_own hB hG74 ho72 (by omega) hsz
    replace hsz := Nat.le_trans hsz hG74.size
    replace hb1 := hb1.step hG74 (own_ty_ne ho72 hty_b1 (by decide))
    replace hb2 := hb2.step hG74 (own_ne ho72 (by omega))
    replace hb3 := hb3.step hG74 (own_ty_ne ho72 hty_b3 (by decide))
    replace hszW := Nat.le_trans hszW hG74.size
    replace hty_b1 := TyAt.own hty_b1 ho72 hG74 (by decide)
    replace hty_b3 := TyAt.own hty_b3 ho72 hG74 (by decide)
    refine m_last3 rfl rfl rfl (o_storet (vs := [.slice a74 ((([] ++ rl) ++ ([⟨q.h, q.st, q.s⟩] : List RC)).length) c74]) (cs' := [.slice ka co.length kc, vint er, .slice sa se.length sc, .slice ja sl.length jc, .slice a74 ((([] ++ rl) ++ ([⟨q.h, q.st, q.s⟩] : List RC)).length) c74]) Tryz.sizeOf27 rfl rfl rfl rfl hb3 (Nat.le_of_ble_eq_true rfl) rfl rfl ?_)
    intro w75 hz75 hb3 hT75 hG75
    replace hB := below_upd hB hG75 hsz (by omega)
    replace hsz : w.heap.size ≤ w75.heap.size := by rw [hz75]; exact hsz
    replace hb1 := hb1.upd hG75 (by omega)
    replace hty_b1 := hty_b1.upd hG75 (by omega)
    replace hb2 := hb2.upd hG75 (by omega)
    replace hszW := Nat.le_trans hszW hG75.size
    replace ho74 := own_ty_upd ho74 hty_b3 hG75 (by decide)
    replace hty_b3 := hT75 _ hty_b3
    refine m_nil3 ?_
    refine r_forget [(2, .pointer _), (5, .pointer _)] ⟨rfl, rfl, trivial⟩ (fun e76 => ?_)
    exact hj5 (a74, c74) _ _ ⟨⟨rfl, rfl, trivial⟩, hb3, (Row.of_owns ho74), hb1, hty_b1, hb2, hty_b3, hsz, hB⟩
end Go.Proofs.YtekkdhpgcilpdaaGreat
