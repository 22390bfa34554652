/- Contracts. -/
import Derived.Test.YtekkdhpgcilpdaaGreatM19
set_option linter.unusedVariables false
set_option linter.unusedSimpArgs false
namespace Go.Proofs.YtekkdhpgcilpdaaGreat
open Go Go.RowKit Go.Gv Go.Fl


theorem maskLeft_ret (ka : Option Addr) (kc : Nat) (co : List Sg) (er : Int) (sa : Option Addr) (sc : Nat) (se : List Int) (ja : Option Addr) (jc : Nat) (sl : List SN) (ra : Option Addr) (rc : Nat) (rl : List RC) (bt : Int) (w : World) (hlg : LgAt w ka kc co sa sc se ja jc sl ra rc rl) (hbg : LgBig co er se sl rl) (hbt : 0 ≤ bt ∧ bt ≤ 255) : Ret Tryz.prog 10 [.agg ⟨[.slice ka co.length kc, vint er, .slice sa se.length sc, .slice ja sl.length jc, .slice ra rl.length rc]⟩, .int .u8 bt] w (fun v w' => v = .bool true ∧ Ext w w') := by
 obtain ⟨⟨hcn, hcl⟩, hen, hsn, ⟨hjn, hjl⟩, hrn, hrl⟩ := id hbg
 have hB := Below.refl w.heap.size w
 have hsz : w.heap.size ≤ w.heap.size := Nat.le_refl _
 refine ret_of_runs (args := [_, _]) Tryz.func10 rfl (Nat.le_of_ble_eq_true rfl) (by kernel_rfl) ?_
 refine r_seq (r_region' ?_)
 refine l_o (o_box rfl rfl rfl ?_)
 intro b1 w1 hzl1 hzr1 _ hb1 hE1
 have hbs_b1 : w.heap.size ≤ b1 := Nat.le_trans hsz hzl1
 replace hB := below_ext hB hE1 hsz
 replace hsz := Nat.le_trans hsz hE1.size
 refine l_q (q_assign (v := .bool _) rfl rfl) ?_
 refine l_nil (r_seq (r_seq (r_region' ?_)))
 refine l_q (q_load_agg (n := 5) Tryz.isAgg29 Tryz.sizeOf29 rfl ((hb1.cells' (cs' := [_, _, _, _, _]) 0 5 rfl)) rfl rfl) ?_
 refine l_o (o_call Tryz.call34 rfl (ready6_ret ka kc co er sa sc se ja jc sl ra rc rl _ (hlg.below hB) hbg) rfl ?_)
 rintro _ w2 ⟨bb2, rfl, hrdy, hE2⟩
 replace hB := below_ext hB hE2 hsz
 replace hb1 := hb1.ext hE2
 replace hsz := Nat.le_trans hsz hE2.size
 refine l_q (q_not rfl rfl) ?_
 refine l_nil ?_
 refine r_cond rfl (fun hc3 => ?_) (fun hc3 => ?_)
 ·
  replace hc3 := nt hc3
  refine r_seq (r_region' ?_)
  refine l_o (o_call Tryz.call18 rfl (awake6_ret _) rfl ?_)
  rintro _ w4 ⟨rfl, hE4⟩
  replace hB := below_ext hB hE4 hsz
  replace hb1 := hb1.ext hE4
  replace hsz := Nat.le_trans hsz hE4.size
  refine l_q (q_assign (v := .bool _) rfl rfl) ?_
  refine l_nil ?_
  refine r_ret_ (vs := [.bool _]) rfl Tryz.func10 rfl (.nil _) ⟨rfl, trivial⟩ ?_
  exact ⟨rfl, Ext.of_below hB⟩
 ·
  replace hc3 := nf hc3
  have hok := hrdy (by simpa using hc3)
  have hr6 : rl.length ≤ 6 := (lg_ok hok).2.2.1
  have hlw := leav_1 hok
  have hlen : ((leavW (lg co er se sl rl)).1).length ≤ rl.length := by rw [hlw]; exact left_len
  have hf1 : (assignM (lg co er se sl (restR ((leavW (lg co er se sl rl)).1) rl))).2 = 0 := by rw [hlw]; exact left_f hok
  refine r_skip (r_seq (r_region' ?_))
  refine l_q (q_load_agg (n := 5) Tryz.isAgg29 Tryz.sizeOf29 rfl ((hb1.cells' (cs' := [_, _, _, _, _]) 0 5 rfl)) rfl rfl) ?_
  refine l_o (o_call Tryz.call20 rfl (log6_ret ka kc co er sa sc se ja jc sl ra rc rl _ (hlg.below hB) hbg) rfl ?_)
  rintro _ w5 ⟨qka5, qkc5, qsa5, qsc5, qja5, qjc5, qsl5, qra5, qrc5, rfl, hlg5, hm5, hE5⟩
  replace hB := below_ext hB hE5 hsz
  replace hb1 := hb1.ext hE5
  replace hsz := Nat.le_trans hsz hE5.size
  have hv6 := leave6_ret qka5 qkc5 co er qsa5 qsc5 se qja5 qjc5 qsl5 qra5 qrc5 rl  w5 hlg5 (big_same hm5 hbg) 
  rw [lg_same hm5] at hv6
  refine l_o (o_call Tryz.call32 rfl (hv6) rfl ?_)
  rintro _ w7 ⟨a7_0, c7_0, rfl, hr7_0, hE7⟩
  replace hB := below_ext hB hE7 hsz
  replace hb1 := hb1.ext hE7
  replace hsz := Nat.le_trans hsz hE7.size
  refine l_q (q_move (v := .tuple _) rfl rfl) ?_
  refine l_q (q_extract (vs := [_, _]) (v := .slice _ _ _) rfl rfl rfl) ?_
  refine l_q (q_extract (vs := [_, _]) (v := .int _ _) rfl rfl rfl) ?_
  refine l_q (q_assign (v := .slice _ _ _) rfl rfl) ?_
  refine l_q (q_assign (v := .int _ _) rfl rfl) ?_
  refine l_nil ?_
  refine r_forget [(1, .int _ _), (2, .pointer _), (5, .slice _ _ _), (6, .int _ _)] ⟨rfl, rfl, rfl, rfl, trivial⟩ (fun e8 => ?_)
  refine r_seq ?_
  obtain ⟨N, hN, hN16, hNn⟩ := two_pow8 (show rl.length ≤ 8 by omega)
  have hNp : 0 < N := by rw [hNn]; exact Nat.two_pow_pos _
  have hq1 := Int.emod_nonneg bt (show (1 * 2 ^ ((rl.length : Int).toNat) : Int) ≠ 0 by omega)
  have hq2 := Int.emod_lt_of_pos bt (show (0 : Int) < 1 * 2 ^ ((rl.length : Int).toNat) by omega)
  obtain ⟨m, hm⟩ : ∃ m : Nat, bt % (1 * 2 ^ ((rl.length : Int).toNat)) = (m : Int) := ⟨_, (Int.toNat_of_nonneg hq1).symm⟩
  have hmN : m < 2 ^ rl.length := by rw [← hNn]; omega
  have hris := bits_ris hmN (by omega)
  have hm16 : m < 256 := by omega
  refine r_region' ?_
  refine l_q (q_move (v := .int _ _) rfl rfl) ?_
  refine l_q (q_toInt Tryz.underlying5 Tryz.underlying3 rfl (by omega) rfl) ?_
  refine l_q (q_fieldAddr (o' := 4) rfl fld29_4 rfl) ?_
  refine l_q (q_load Tryz.isAgg27 rfl ((hb1.has (o := 4) rfl)) rfl) ?_
  refine l_q (q_len rfl Tryz.underlying27 rfl rfl) ?_
  refine l_q (q_toUint Tryz.underlying3 Tryz.underlying64 rfl (by omega) rfl) ?_
  refine l_q (q_shl rfl rfl (by omega) (by omega) rfl) ?_
  refine l_q (q_rem rfl rfl (by omega) rfl) ?_
  refine l_o (o_call Tryz.call41 rfl ((by have h := bits6_ret m w7 (by omega); rw [← hm] at h; exact h)) rfl ?_)
  rintro _ w9 ⟨a9_0, c9_0, rfl, ho9_0, hE9⟩
  replace ho9_0 := own_mono ho9_0 (show w.heap.size ≤ _ by omega)
  replace hB := below_ext hB hE9 hsz
  replace hb1 := hb1.ext hE9
  replace hr7_0 := hr7_0.ext hE9
  replace hsz := Nat.le_trans hsz hE9.size
  refine l_q (q_assign (v := .slice _ _ _) rfl rfl) ?_
  refine l_nil ?_
  refine r_forget [(2, .pointer _), (5, .slice _ _ _), (6, .int _ _), (7, .slice _ _ _)] ⟨rfl, rfl, rfl, rfl, trivial⟩ (fun e10 => ?_)
  refine r_seq (r_region' ?_)
  refine l_q (q_load_agg (n := 5) Tryz.isAgg29 Tryz.sizeOf29 rfl ((hb1.cells' (cs' := [_, _, _, _, _]) 0 5 rfl)) rfl rfl) ?_
  refine l_q (q_move (v := .slice _ _ _) rfl rfl) ?_
  refine l_o (o_call Tryz.call42 rfl (without6_ret ka kc co er sa sc se ja jc sl ra rc rl a7_0 c7_0 ((leavW (lg co er se sl rl)).1) _ (hlg.below hB) hbg hr7_0 (by omega)) rfl ?_)
  rintro _ w11 ⟨wra11, wrc11, rfl, hwr11, hE11⟩
  replace hB := below_ext hB hE11 hsz
  replace hb1 := hb1.ext hE11
  replace hr7_0 := hr7_0.ext hE11
  replace ho9_0 := own_ext ho9_0 hE11
  replace hsz := Nat.le_trans hsz hE11.size
  refine l_o (o_call Tryz.call20 rfl (log6_ret ka kc co er sa sc se ja jc sl wra11 wrc11 (restR ((leavW (lg co er se sl rl)).1) rl) _ ⟨(hlg.rco.below hB), (hlg.rse.below hB), (hlg.rsl.below hB), (hlg.rslr.below hB), hwr11⟩ (rest_big hbg)) rfl ?_)
  rintro _ w12 ⟨qka12, qkc12, qsa12, qsc12, qja12, qjc12, qsl12, qra12, qrc12, rfl, hlg12, hm12, hE12⟩
  replace hB := below_ext hB hE12 hsz
  replace hb1 := hb1.ext hE12
  replace hr7_0 := hr7_0.ext hE12
  replace ho9_0 := own_ext ho9_0 hE12
  replace hsz := Nat.le_trans hsz hE12.size
  have hv13 := assign6_ret qka12 qkc12 co er qsa12 qsc12 se qja12 qjc12 qsl12 qra12 qrc12 (restR ((leavW (lg co er se sl rl)).1) rl)  w12 hlg12 (big_same hm12 (rest_big hbg)) 
  rw [lg_same hm12] at hv13
  refine l_o (o_call Tryz.call36 rfl (hv13) rfl ?_)
  rintro _ w14 ⟨a14_0, c14_0, rfl, hr14_0, hE14⟩
  replace hB := below_ext hB hE14 hsz
  replace hb1 := hb1.ext hE14
  replace hr7_0 := hr7_0.ext hE14
  replace ho9_0 := own_ext ho9_0 hE14
  replace hsz := Nat.le_trans hsz hE14.size
  refine l_q (q_move (v := .tuple _) rfl rfl) ?_
  refine l_q (q_extract (vs := [_, _]) (v := .slice _ _ _) rfl rfl rfl) ?_
  refine l_q (q_extract (vs := [_, _]) (v := .int _ _) rfl rfl rfl) ?_
  refine l_q (q_assign (v := .slice _ _ _) rfl rfl) ?_
  refine l_q (q_assign (v := .int _ _) rfl rfl) ?_
  refine l_nil (r_seq (r_region' ?_))
  refine l_q (q_load_agg (n := 5) Tryz.isAgg29 Tryz.sizeOf29 rfl ((hb1.cells' (cs' := [_, _, _, _, _]) 0 5 rfl)) rfl rfl) ?_
  refine l_q (q_move (v := .slice _ _ _) rfl rfl) ?_
  refine l_o (o_call Tryz.call42 rfl (without6_ret ka kc co er sa sc se ja jc sl ra rc rl a9_0 c9_0 (bitsL m) _ (hlg.below hB) hbg (Row.of_owns ho9_0) (Nat.le_trans (bits_len m) (by decide))) rfl ?_)
  rintro _ w15 ⟨wra15, wrc15, rfl, hwr15, hE15⟩
  replace hB := below_ext hB hE15 hsz
  replace hb1 := hb1.ext hE15
  replace hr7_0 := hr7_0.ext hE15
  replace ho9_0 := own_ext ho9_0 hE15
  replace hsz := Nat.le_trans hsz hE15.size
  refine l_o (o_call Tryz.call20 rfl (log6_ret ka kc co er sa sc se ja jc sl wra15 wrc15 (restR (bitsL m) rl) _ ⟨(hlg.rco.below hB), (hlg.rse.below hB), (hlg.rsl.below hB), (hlg.rslr.below hB), hwr15⟩ (rest_big hbg)) rfl ?_)
  rintro _ w16 ⟨qka16, qkc16, qsa16, qsc16, qja16, qjc16, qsl16, qra16, qrc16, rfl, hlg16, hm16, hE16⟩
  replace hB := below_ext hB hE16 hsz
  replace hb1 := hb1.ext hE16
  replace hr7_0 := hr7_0.ext hE16
  replace ho9_0 := own_ext ho9_0 hE16
  replace hsz := Nat.le_trans hsz hE16.size
  have hv17 := assign6_ret qka16 qkc16 co er qsa16 qsc16 se qja16 qjc16 qsl16 qra16 qrc16 (restR (bitsL m) rl)  w16 hlg16 (big_same hm16 (rest_big hbg)) 
  rw [lg_same hm16] at hv17
  refine l_o (o_call Tryz.call36 rfl (hv17) rfl ?_)
  rintro _ w18 ⟨a18_0, c18_0, rfl, hr18_0, hE18⟩
  replace hB := below_ext hB hE18 hsz
  replace hb1 := hb1.ext hE18
  replace hr7_0 := hr7_0.ext hE18
  replace ho9_0 := own_ext ho9_0 hE18
  replace hsz := Nat.le_trans hsz hE18.size
  refine l_q (q_move (v := .tuple _) rfl rfl) ?_
  refine l_q (q_extract (vs := [_, _]) (v := .slice _ _ _) rfl rfl rfl) ?_
  refine l_q (q_extract (vs := [_, _]) (v := .int _ _) rfl rfl rfl) ?_
  refine l_q (q_assign (v := .slice _ _ _) rfl rfl) ?_
  refine l_q (q_assign (v := .int _ _) rfl rfl) ?_
  refine l_nil ?_
  refine r_forget [(2, .pointer _), (5, .slice _ _ _), (6, .int _ _), (7, .slice _ _ _), (9, .int _ _), (11, .int _ _)] ⟨rfl, rfl, rfl, rfl, rfl, rfl, trivial⟩ (fun e19 => ?_)
  refine r_seq (r_seq (r_region' ?_))
  refine l_q (q_move (v := .int _ _) rfl rfl) ?_
  refine l_q (q_neq rfl rfl rfl) ?_
  refine l_q (q_move (v := .bool _) rfl rfl) ?_
  have hk20 : (!decide (((leavW (lg co er se sl rl)).2) = 0)) = false := by rw [leav_0 hok]; rfl
  refine l_part 49 rfl (fun hx => absurd (hk20.symm.trans hx) (by decide)) (fun _ => ?_)
  refine l_q (q_move (v := .slice _ _ _) rfl rfl) ?_
  refine l_q (q_len rfl Tryz.underlying25 rfl rfl) ?_
  refine l_q (q_fieldAddr (o' := 4) rfl fld29_4 rfl) ?_
  refine l_q (q_load Tryz.isAgg27 rfl ((hb1.has (o := 4) rfl)) rfl) ?_
  refine l_q (q_len rfl Tryz.underlying27 rfl rfl) ?_
  refine l_q (q_gtr rfl rfl rfl) ?_
  refine l_q (q_pick_f (v := .bool _) rfl rfl rfl) ?_
  refine l_q (q_move (v := .bool _) rfl rfl) ?_
  have hk21 : (decide ((rl.length : Int) < (((leavW (lg co er se sl rl)).1).length : Int))) = false := decide_eq_false (by omega)
  refine l_part 57 rfl (fun hx => absurd (hk21.symm.trans hx) (by decide)) (fun _ => ?_)
  refine l_q (q_move (v := .int _ _) rfl rfl) ?_
  refine l_q (q_neq rfl rfl rfl) ?_
  refine l_q (q_pick_f (v := .bool _) rfl rfl rfl) ?_
  refine l_q (q_move (v := .bool _) rfl rfl) ?_
  have hk22 : (!decide (((assignM (lg co er se sl (restR ((leavW (lg co er se sl rl)).1) rl))).2) = 0)) = false := by rw [hf1]; rfl
  refine l_part 61 rfl (fun hx => absurd (hk22.symm.trans hx) (by decide)) (fun _ => ?_)
  refine l_q (q_move (v := .int _ _) rfl rfl) ?_
  refine l_q (q_neq rfl rfl rfl) ?_
  refine l_q (q_move (v := .bool _) rfl rfl) ?_
  refine l_part 64 rfl (fun hc23 => ?_) (fun hc23 => ?_)
  ·
   replace hc23 := df (nt hc23)
   have hg : (assignM (lg co er se sl (restR (bitsL m) rl))).2 = 11 := left_err hok hris hc23
   refine l_q (q_move (v := .int _ _) rfl rfl) ?_
   refine l_q (q_neq rfl rfl rfl) ?_
   refine l_q (q_pick_t (v := .bool _) rfl rfl rfl) ?_
   refine l_q (q_pick_f (v := .bool _) rfl rfl rfl) ?_
   refine l_nil ?_
   refine r_forget [(5, .slice _ _ _), (7, .slice _ _ _), (11, .int _ _), (68, .bool _)] ⟨rfl, rfl, rfl, rfl, trivial⟩ (fun e24 => ?_)
   have hk25 : (!decide (((assignM (lg co er se sl (restR (bitsL m) rl))).2) = 11)) = false := by rw [hg]; rfl
   refine r_cond_f ((congrArg Value.bool hk25 : Value.bool _ = _)) ?_
   refine r_skip (r_seq (r_region' ?_))
   refine l_q (q_move (v := .int _ _) rfl rfl) ?_
   refine l_q (q_neq rfl rfl rfl) ?_
   refine l_q (q_move (v := .bool _) rfl rfl) ?_
   have hk26 : (!decide (((assignM (lg co er se sl (restR (bitsL m) rl))).2) = 0)) = true := by rw [hg]; rfl
   refine l_part 71 rfl (fun _ => ?_) (fun hx => absurd (hk26.symm.trans hx) (by decide))
   refine l_q (q_skip rfl) ?_
   refine l_q (q_skip rfl) ?_
   refine l_q (q_skip rfl) ?_
   refine l_q (q_skip rfl) ?_
   refine l_q (q_pick_t (v := .bool _) rfl rfl rfl) ?_
   refine l_q (q_move (v := .bool _) rfl rfl) ?_
   refine l_o (o_call Tryz.call18 rfl (awake6_ret _) rfl ?_)
   rintro _ w27 ⟨rfl, hE27⟩
   replace hB := below_ext hB hE27 hsz
   replace hr7_0 := hr7_0.ext hE27
   replace ho9_0 := own_ext ho9_0 hE27
   replace hsz := Nat.le_trans hsz hE27.size
   refine l_q (q_pick_t (v := .bool _) rfl rfl rfl) ?_
   refine l_q (q_assign (v := .bool _) rfl rfl) ?_
   refine l_nil ?_
   refine r_forget [(4, .bool _)] ⟨rfl, trivial⟩ (fun e28 => ?_)
   refine r_ret_ (vs := [.bool _]) rfl Tryz.func10 rfl (.nil _) ⟨rfl, trivial⟩ ?_
   exact ⟨rfl, Ext.of_below hB⟩
  ·
   replace hc23 := dt (nf hc23)
   have hg : (assignM (lg co er se sl (restR (bitsL m) rl))).2 = 0 := by have := hc23; simpa using this
   have hgl := left_min hok hris hg
   refine l_q (q_skip rfl) ?_
   refine l_q (q_skip rfl) ?_
   refine l_q (q_pick_f (v := .bool _) rfl rfl rfl) ?_
   refine l_q (q_pick_f (v := .bool _) rfl rfl rfl) ?_
   refine l_nil ?_
   refine r_forget [(5, .slice _ _ _), (7, .slice _ _ _), (11, .int _ _), (68, .bool _)] ⟨rfl, rfl, rfl, rfl, trivial⟩ (fun e29 => ?_)
   refine r_cond_f rfl ?_
   refine r_skip (r_seq (r_region' ?_))
   refine l_q (q_move (v := .int _ _) rfl rfl) ?_
   refine l_q (q_neq rfl rfl rfl) ?_
   refine l_q (q_move (v := .bool _) rfl rfl) ?_
   have hk30 : (!decide (((assignM (lg co er se sl (restR (bitsL m) rl))).2) = 0)) = false := by rw [hg]; rfl
   refine l_part 71 rfl (fun hx => absurd (hk30.symm.trans hx) (by decide)) (fun _ => ?_)
   refine l_q (q_move (v := .slice _ _ _) rfl rfl) ?_
   refine l_q (q_move (v := .slice _ _ _) rfl rfl) ?_
   refine l_o (o_call Tryz.call43 rfl (short6_ret _ _ (bitsL m) _ _ ((leavW (lg co er se sl rl)).1) _ (Row.of_owns ho9_0) (Nat.le_trans (bits_len _) (by decide)) hr7_0 (by omega)) rfl ?_)
   rintro _ w31 ⟨rfl, hE31⟩
   replace hB := below_ext hB hE31 hsz
   replace hsz := Nat.le_trans hsz hE31.size
   refine l_q (q_not rfl rfl) ?_
   refine l_q (q_pick_f (v := .bool _) rfl rfl rfl) ?_
   refine l_q (q_move (v := .bool _) rfl rfl) ?_
   have hk32 : (!(ltL (bitsL m) ((leavW (lg co er se sl rl)).1))) = true := by rw [hlw, hgl]; rfl
   refine l_part 77 rfl (fun _ => ?_) (fun hx => absurd (hk32.symm.trans hx) (by decide))
   refine l_o (o_call Tryz.call18 rfl (awake6_ret _) rfl ?_)
   rintro _ w33 ⟨rfl, hE33⟩
   replace hB := below_ext hB hE33 hsz
   replace hsz := Nat.le_trans hsz hE33.size
   refine l_q (q_pick_t (v := .bool _) rfl rfl rfl) ?_
   refine l_q (q_assign (v := .bool _) rfl rfl) ?_
   refine l_nil ?_
   refine r_forget [(4, .bool _)] ⟨rfl, trivial⟩ (fun e34 => ?_)
   refine r_ret_ (vs := [.bool _]) rfl Tryz.func10 rfl (.nil _) ⟨rfl, trivial⟩ ?_
   exact ⟨rfl, Ext.of_below hB⟩
end Go.Proofs.YtekkdhpgcilpdaaGreat
