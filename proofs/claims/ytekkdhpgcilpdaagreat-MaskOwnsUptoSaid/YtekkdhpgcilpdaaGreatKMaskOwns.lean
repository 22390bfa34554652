/- Contracts. -/
import Derived.Test.YtekkdhpgcilpdaaGreatM14
set_option linter.unusedVariables false
set_option linter.unusedSimpArgs false
namespace Go.Proofs.YtekkdhpgcilpdaaGreat
open Go Go.RowKit Go.Gv Go.Fl


theorem maskOwns_ret (ka : Option Addr) (kc : Nat) (co : List Sg) (er : Int) (sa : Option Addr) (sc : Nat) (se : List Int) (ja : Option Addr) (jc : Nat) (sl : List SN) (ra : Option Addr) (rc : Nat) (rl : List RC) (n : Int) (w : World) (hlg : LgAt w ka kc co sa sc se ja jc sl ra rc rl) (hbg : LgBig co er se sl rl) (hnb : -9223372036854775808 ≤ n ∧ n ≤ 9223372036854775807) : Ret Tryz.prog 3 [.agg ⟨[.slice ka co.length kc, vint er, .slice sa se.length sc, .slice ja sl.length jc, .slice ra rl.length rc]⟩, vint n] w (fun v w' => v = .bool true ∧ Ext w w') := by
 obtain ⟨⟨hcn, hcl⟩, hen, hsn, ⟨hjn, hjl⟩, hrn, hrl⟩ := id hbg
 have hB := Below.refl w.heap.size w
 have hsz : w.heap.size ≤ w.heap.size := Nat.le_refl _
 refine ret_of_runs (args := [_, _]) Tryz.func3 rfl (Nat.le_of_ble_eq_true rfl) (by kernel_rfl) ?_
 refine r_seq (r_region' ?_)
 refine l_o (o_box rfl rfl rfl ?_)
 intro b1 w1 hzl1 hzr1 _ hb1 hE1
 have hbs_b1 : w.heap.size ≤ b1 := Nat.le_trans hsz hzl1
 replace hB := below_ext hB hE1 hsz
 replace hsz := Nat.le_trans hsz hE1.size
 refine l_q (q_assign (v := .bool _) rfl rfl) ?_
 refine l_nil (r_seq (r_seq (r_region' ?_)))
 refine l_q (q_load_agg (n := 5) Tryz.isAgg29 Tryz.sizeOf29 rfl ((hb1.cells' (cs' := [_, _, _, _, _]) 0 5 rfl)) rfl rfl) ?_
 refine l_o (o_call Tryz.call17 rfl (thin6_ret ka kc co er sa sc se ja jc sl ra rc rl _ (hlg.below hB) hbg) rfl ?_)
 rintro _ w2 ⟨bb2, rfl, -, hE2⟩
 replace hB := below_ext hB hE2 hsz
 replace hb1 := hb1.ext hE2
 replace hsz := Nat.le_trans hsz hE2.size
 refine l_q (q_not rfl rfl) ?_
 refine l_nil ?_
 refine r_cond rfl (fun hc3 => ?_) (fun hc3 => ?_)
 ·
  replace hc3 := nt hc3
  refine r_seq (r_region' ?_)
  refine l_o (o_call Tryz.call18 rfl (awake6_ret _) rfl ?_)
  rintro _ w4 ⟨rfl, hE4⟩
  replace hB := below_ext hB hE4 hsz
  replace hb1 := hb1.ext hE4
  replace hsz := Nat.le_trans hsz hE4.size
  refine l_q (q_assign (v := .bool _) rfl rfl) ?_
  refine l_nil ?_
  refine r_ret_ (vs := [.bool _]) rfl Tryz.func3 rfl (.nil _) ⟨rfl, trivial⟩ ?_
  exact ⟨rfl, Ext.of_below hB⟩
 ·
  replace hc3 := nf hc3
  refine r_skip (r_seq (r_region' ?_))
  refine l_q (q_load_agg (n := 5) Tryz.isAgg29 Tryz.sizeOf29 rfl ((hb1.cells' (cs' := [_, _, _, _, _]) 0 5 rfl)) rfl rfl) ?_
  refine l_o (o_call Tryz.call20 rfl (log6_ret ka kc co er sa sc se ja jc sl ra rc rl _ (hlg.below hB) hbg) rfl ?_)
  rintro _ w5 ⟨qka5, qkc5, qsa5, qsc5, qja5, qjc5, qsl5, qra5, qrc5, rfl, hlg5, hm5, hE5⟩
  replace hB := below_ext hB hE5 hsz
  replace hb1 := hb1.ext hE5
  replace hsz := Nat.le_trans hsz hE5.size
  have hv6 := checkLog_ret qka5 qkc5 co er qsa5 qsc5 se qja5 qjc5 qsl5 qra5 qrc5 rl  w5 hlg5 (big_same hm5 hbg) 
  rw [lg_same hm5] at hv6
  refine l_o (o_call Tryz.call19 rfl (hv6) rfl ?_)
  rintro _ w7 ⟨rfl, hE7⟩
  replace hB := below_ext hB hE7 hsz
  replace hb1 := hb1.ext hE7
  replace hsz := Nat.le_trans hsz hE7.size
  refine l_q (q_assign (v := .int _ _) rfl rfl) ?_
  refine l_nil (r_seq (r_region' ?_))
  refine l_q (q_load_agg (n := 5) Tryz.isAgg29 Tryz.sizeOf29 rfl ((hb1.cells' (cs' := [_, _, _, _, _]) 0 5 rfl)) rfl rfl) ?_
  refine l_o (o_call Tryz.call20 rfl (log6_ret ka kc co er sa sc se ja jc sl ra rc rl _ (hlg.below hB) hbg) rfl ?_)
  rintro _ w8 ⟨qka8, qkc8, qsa8, qsc8, qja8, qjc8, qsl8, qra8, qrc8, rfl, hlg8, hm8, hE8⟩
  replace hB := below_ext hB hE8 hsz
  replace hb1 := hb1.ext hE8
  replace hsz := Nat.le_trans hsz hE8.size
  refine l_q (q_move (v := .int _ _) rfl rfl) ?_
  have hv9 := own6_ret qka8 qkc8 co er qsa8 qsc8 se qja8 qjc8 qsl8 qra8 qrc8 rl n w8 hlg8 (big_same hm8 hbg) 
  rw [lg_same hm8] at hv9
  refine l_o (o_call Tryz.call21 rfl (hv9) rfl ?_)
  rintro _ w10 ⟨a10_0, c10_0, rfl, hr10_0, hE10⟩
  replace hB := below_ext hB hE10 hsz
  replace hb1 := hb1.ext hE10
  replace hsz := Nat.le_trans hsz hE10.size
  refine l_q (q_move (v := .tuple _) rfl rfl) ?_
  refine l_q (q_extract (vs := [_, _]) (v := .slice _ _ _) rfl rfl rfl) ?_
  refine l_q (q_extract (vs := [_, _]) (v := .int _ _) rfl rfl rfl) ?_
  refine l_q (q_assign (v := .slice _ _ _) rfl rfl) ?_
  refine l_q (q_assign (v := .int _ _) rfl rfl) ?_
  refine l_nil ?_
  refine r_forget [(1, .int _ _), (2, .pointer _), (5, .int _ _), (6, .slice _ _ _), (7, .int _ _)] ⟨rfl, rfl, rfl, rfl, rfl, trivial⟩ (fun e11 => ?_)
  refine r_seq (r_region' ?_)
  refine l_q (q_load_agg (n := 5) Tryz.isAgg29 Tryz.sizeOf29 rfl ((hb1.cells' (cs' := [_, _, _, _, _]) 0 5 rfl)) rfl rfl) ?_
  refine l_o (o_call Tryz.call22 rfl (lfault6_ret ka kc co er sa sc se ja jc sl ra rc rl _ (hlg.below hB) hbg) rfl ?_)
  rintro _ w12 ⟨rfl, hE12⟩
  replace hB := below_ext hB hE12 hsz
  replace hb1 := hb1.ext hE12
  replace hr10_0 := hr10_0.ext hE12
  replace hsz := Nat.le_trans hsz hE12.size
  refine l_q (q_assign (v := .int _ _) rfl rfl) ?_
  refine l_nil (r_seq (r_seq (r_region' ?_)))
  refine l_q (q_move (v := .int _ _) rfl rfl) ?_
  refine l_q (q_move (v := .int _ _) rfl rfl) ?_
  refine l_q (q_neq rfl rfl rfl) ?_
  refine l_nil ?_
  have hk13 : (!decide ((faultM (lg co er se sl rl)) = (faultM (lg co er se sl rl)))) = false := by simp
  refine r_cond_f ((congrArg Value.bool hk13 : Value.bool _ = _)) ?_
  refine r_skip (r_seq (r_seq (r_region' ?_)))
  refine l_q (q_move (v := .int _ _) rfl rfl) ?_
  refine l_q (q_eql rfl rfl rfl) ?_
  refine l_q (q_move (v := .bool _) rfl rfl) ?_
  refine l_part 30 rfl (fun hc14 => ?_) (fun hc14 => ?_)
  ·
   replace hc14 := dt hc14
   have hok : faultM (lg co er se sl rl) = 0 := hc14
   refine l_q (q_move (v := .int _ _) rfl rfl) ?_
   refine l_q (q_fieldAddr (o' := 4) rfl fld29_4 rfl) ?_
   refine l_q (q_load Tryz.isAgg27 rfl ((hb1.has (o := 4) rfl)) rfl) ?_
   refine l_q (q_len rfl Tryz.underlying27 rfl rfl) ?_
   refine l_q (q_sub rfl rfl (by omega) rfl) ?_
   refine l_o (o_call Tryz.call23 rfl (in6_ret _ _ _ _) rfl ?_)
   rintro _ w15 ⟨rfl, rfl⟩
   refine l_q (q_not rfl rfl) ?_
   refine l_q (q_pick_t (v := .bool _) rfl rfl rfl) ?_
   refine l_nil ?_
   refine r_forget [(1, .int _ _), (2, .pointer _), (6, .slice _ _ _), (7, .int _ _), (8, .int _ _), (38, .bool _)] ⟨rfl, rfl, rfl, rfl, rfl, rfl, trivial⟩ (fun e16 => ?_)
   refine r_cond rfl (fun hc17 => ?_) (fun hc17 => ?_)
   ·
    replace hc17 := b2f (nt hc17)
    have h38 : ¬ (0 ≤ n ∧ n ≤ (rl.length : Int) - 1) := by omega
    refine r_region' ?_
    refine l_q (q_assign (v := .int _ _) rfl rfl) ?_
    refine l_nil (r_seq (r_seq (r_region' ?_)))
    refine l_q (q_move (v := .int _ _) rfl rfl) ?_
    refine l_q (q_neq rfl rfl rfl) ?_
    refine l_nil ?_
    have hk18 : (!decide (2 = 0)) = true := by decide
    refine r_cond_t ((congrArg Value.bool hk18 : Value.bool _ = _)) ?_
    refine r_seq ?_
    have hown : ownM (lg co er se sl rl) n = ([], 2) := own_B hok h38
    refine r_region' ?_
    refine l_q (q_move (v := .int _ _) rfl rfl) ?_
    refine l_q (q_move (v := .int _ _) rfl rfl) ?_
    refine l_q (q_eql rfl rfl rfl) ?_
    refine l_q (q_move (v := .bool _) rfl rfl) ?_
    have hk19 : (decide (((ownM (lg co er se sl rl) n).2) = 2)) = true := decide_eq_true (by rw [hown])
    refine l_part 44 rfl (fun _ => ?_) (fun hx => absurd (hk19.symm.trans hx) (by decide))
    refine l_q (q_move (v := .slice _ _ _) rfl rfl) ?_
    refine l_q (q_len rfl Tryz.underlying25 rfl rfl) ?_
    refine l_q (q_eql rfl rfl rfl) ?_
    refine l_q (q_pick_t (v := .bool _) rfl rfl rfl) ?_
    refine l_q (q_move (v := .bool _) rfl rfl) ?_
    have hk20 : (decide ((((ownM (lg co er se sl rl) n).1).length : Int) = 0)) = true := decide_eq_true (by rw [hown]; rfl)
    refine l_part 49 rfl (fun _ => ?_) (fun hx => absurd (hk20.symm.trans hx) (by decide))
    refine l_o (o_call Tryz.call18 rfl (awake6_ret _) rfl ?_)
    rintro _ w21 ⟨rfl, hE21⟩
    replace hB := below_ext hB hE21 hsz
    replace hb1 := hb1.ext hE21
    replace hr10_0 := hr10_0.ext hE21
    replace hsz := Nat.le_trans hsz hE21.size
    refine l_q (q_pick_t (v := .bool _) rfl rfl rfl) ?_
    refine l_q (q_assign (v := .bool _) rfl rfl) ?_
    refine l_nil ?_
    refine r_forget [(4, .bool _)] ⟨rfl, trivial⟩ (fun e22 => ?_)
    refine r_ret_ (vs := [.bool _]) rfl Tryz.func3 rfl (.nil _) ⟨rfl, trivial⟩ ?_
    exact ⟨rfl, Ext.of_below hB⟩
   ·
    replace hc17 := b2t (nf hc17)
    have h38 : 0 ≤ n ∧ n ≤ (rl.length : Int) - 1 := by omega
    refine r_skip (r_seq (r_seq (r_region' ?_)))
    refine l_q (q_move (v := .int _ _) rfl rfl) ?_
    refine l_q (q_neq rfl rfl rfl) ?_
    refine l_nil ?_
    have hk23 : (!decide ((faultM (lg co er se sl rl)) = 0)) = false := by rw [decide_eq_true hok]; rfl
    refine r_cond_f ((congrArg Value.bool hk23 : Value.bool _ = _)) ?_
    refine r_skip (r_seq ?_)
    have hown : ownM (lg co er se sl rl) n = (ownL (lg co er se sl rl) (rl.getD n.toNat rcd0), 0) := own_C hok h38
    have hol := own_small (r := rl.getD n.toNat rcd0) hok
    refine r_region' ?_
    refine l_q (q_move (v := .int _ _) rfl rfl) ?_
    refine l_q (q_eql rfl rfl rfl) ?_
    refine l_q (q_move (v := .bool _) rfl rfl) ?_
    have hk24 : (decide (((ownM (lg co er se sl rl) n).2) = 0)) = true := decide_eq_true (by rw [hown])
    refine l_part 54 rfl (fun _ => ?_) (fun hx => absurd (hk24.symm.trans hx) (by decide))
    refine l_q (q_move (v := .slice _ _ _) rfl rfl) ?_
    refine l_q (q_load_agg (n := 5) Tryz.isAgg29 Tryz.sizeOf29 rfl ((hb1.cells' (cs' := [_, _, _, _, _]) 0 5 rfl)) rfl rfl) ?_
    refine l_q (q_move (v := .int _ _) rfl rfl) ?_
    have hro25 := rown6_ret ka kc co er sa sc se ja jc sl ra rc rl n.toNat w12 (hlg.below hB) hbg hok (by omega)
    rw [show ((n.toNat : Nat) : Int) = n by omega] at hro25
    refine l_o (o_call Tryz.call25 rfl (hro25) rfl ?_)
    rintro _ w26 ⟨a26_0, c26_0, rfl, ho26_0, hE26⟩
    replace ho26_0 := own_mono ho26_0 (show w.heap.size ≤ _ by omega)
    replace hB := below_ext hB hE26 hsz
    replace hr10_0 := hr10_0.ext hE26
    replace hsz := Nat.le_trans hsz hE26.size
    refine l_o (o_call Tryz.call24 rfl (same_ret _ _ ((ownM (lg co er se sl rl) n).1) _ _ (ownL (lg co er se sl rl) (rl.getD n.toNat rcd0)) _ hr10_0 (by rw [hown]; exact hol) (Row.of_owns ho26_0) hol) rfl ?_)
    rintro _ w27 ⟨rfl, hE27⟩
    replace hB := below_ext hB hE27 hsz
    replace hsz := Nat.le_trans hsz hE27.size
    refine l_q (q_pick_t (v := .bool _) rfl rfl rfl) ?_
    refine l_q (q_move (v := .bool _) rfl rfl) ?_
    have hk28 : (decide (((ownM (lg co er se sl rl) n).1) = (ownL (lg co er se sl rl) (rl.getD n.toNat rcd0)))) = true := decide_eq_true (by rw [hown])
    refine l_part 61 rfl (fun _ => ?_) (fun hx => absurd (hk28.symm.trans hx) (by decide))
    refine l_o (o_call Tryz.call18 rfl (awake6_ret _) rfl ?_)
    rintro _ w29 ⟨rfl, hE29⟩
    replace hB := below_ext hB hE29 hsz
    replace hsz := Nat.le_trans hsz hE29.size
    refine l_q (q_pick_t (v := .bool _) rfl rfl rfl) ?_
    refine l_q (q_assign (v := .bool _) rfl rfl) ?_
    refine l_nil ?_
    refine r_forget [(4, .bool _)] ⟨rfl, trivial⟩ (fun e30 => ?_)
    refine r_ret_ (vs := [.bool _]) rfl Tryz.func3 rfl (.nil _) ⟨rfl, trivial⟩ ?_
    exact ⟨rfl, Ext.of_below hB⟩
  ·
   replace hc14 := df hc14
   have h30 : ¬ faultM (lg co er se sl rl) = 0 := hc14
   refine l_q (q_skip rfl) ?_
   refine l_q (q_skip rfl) ?_
   refine l_q (q_skip rfl) ?_
   refine l_q (q_skip rfl) ?_
   refine l_q (q_skip rfl) ?_
   refine l_q (q_skip rfl) ?_
   refine l_q (q_skip rfl) ?_
   refine l_q (q_pick_f (v := .bool _) rfl rfl rfl) ?_
   refine l_nil ?_
   refine r_forget [(1, .int _ _), (2, .pointer _), (6, .slice _ _ _), (7, .int _ _), (8, .int _ _), (38, .bool _)] ⟨rfl, rfl, rfl, rfl, rfl, rfl, trivial⟩ (fun e31 => ?_)
   refine r_cond_f rfl ?_
   refine r_skip (r_seq (r_seq (r_region' ?_)))
   refine l_q (q_move (v := .int _ _) rfl rfl) ?_
   refine l_q (q_neq rfl rfl rfl) ?_
   refine l_nil ?_
   have hk32 : (!decide ((faultM (lg co er se sl rl)) = 0)) = true := by rw [decide_eq_false h30]; rfl
   refine r_cond_t ((congrArg Value.bool hk32 : Value.bool _ = _)) ?_
   refine r_seq ?_
   have hown : ownM (lg co er se sl rl) n = ([], faultM (lg co er se sl rl)) := own_A h30
   refine r_region' ?_
   refine l_q (q_move (v := .int _ _) rfl rfl) ?_
   refine l_q (q_move (v := .int _ _) rfl rfl) ?_
   refine l_q (q_eql rfl rfl rfl) ?_
   refine l_q (q_move (v := .bool _) rfl rfl) ?_
   have hk33 : (decide (((ownM (lg co er se sl rl) n).2) = (faultM (lg co er se sl rl)))) = true := decide_eq_true (by rw [hown])
   refine l_part 44 rfl (fun _ => ?_) (fun hx => absurd (hk33.symm.trans hx) (by decide))
   refine l_q (q_move (v := .slice _ _ _) rfl rfl) ?_
   refine l_q (q_len rfl Tryz.underlying25 rfl rfl) ?_
   refine l_q (q_eql rfl rfl rfl) ?_
   refine l_q (q_pick_t (v := .bool _) rfl rfl rfl) ?_
   refine l_q (q_move (v := .bool _) rfl rfl) ?_
   have hk34 : (decide ((((ownM (lg co er se sl rl) n).1).length : Int) = 0)) = true := decide_eq_true (by rw [hown]; rfl)
   refine l_part 49 rfl (fun _ => ?_) (fun hx => absurd (hk34.symm.trans hx) (by decide))
   refine l_o (o_call Tryz.call18 rfl (awake6_ret _) rfl ?_)
   rintro _ w35 ⟨rfl, hE35⟩
   replace hB := below_ext hB hE35 hsz
   replace hsz := Nat.le_trans hsz hE35.size
   refine l_q (q_pick_t (v := .bool _) rfl rfl rfl) ?_
   refine l_q (q_assign (v := .bool _) rfl rfl) ?_
   refine l_nil ?_
   refine r_forget [(4, .bool _)] ⟨rfl, trivial⟩ (fun e36 => ?_)
   refine r_ret_ (vs := [.bool _]) rfl Tryz.func3 rfl (.nil _) ⟨rfl, trivial⟩ ?_
   exact ⟨rfl, Ext.of_below hB⟩
end Go.Proofs.YtekkdhpgcilpdaaGreat
