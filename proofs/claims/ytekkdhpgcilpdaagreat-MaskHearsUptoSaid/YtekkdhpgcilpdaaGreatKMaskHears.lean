/- Contracts. -/
import Derived.Test.YtekkdhpgcilpdaaGreatM23
set_option linter.unusedVariables false
set_option linter.unusedSimpArgs false
namespace Go.Proofs.YtekkdhpgcilpdaaGreat
open Go Go.RowKit Go.Gv Go.Fl


set_option maxHeartbeats 1000000 in
theorem maskHears_ret (ka : Option Addr) (kc : Nat) (co : List Sg) (er : Int) (sa : Option Addr) (sc : Nat) (se : List Int) (ja : Option Addr) (jc : Nat) (sl : List SN) (ra : Option Addr) (rc : Nat) (rl : List RC) (n m : Int) (w : World) (hlg : LgAt w ka kc co sa sc se ja jc sl ra rc rl) (hbg : LgBig co er se sl rl) : Ret Tryz.prog 4 [.agg ⟨[.slice ka co.length kc, vint er, .slice sa se.length sc, .slice ja sl.length jc, .slice ra rl.length rc]⟩, vint n, vint m] w (fun v w' => v = .bool true ∧ Ext w w') := by
 obtain ⟨⟨hcn, hcl⟩, hen, hsn, ⟨hjn, hjl⟩, hrn, hrl⟩ := id hbg
 have hB := Below.refl w.heap.size w
 have hsz : w.heap.size ≤ w.heap.size := Nat.le_refl _
 refine ret_of_runs (args := [_, _, _]) Tryz.func4 rfl (Nat.le_of_ble_eq_true rfl) (by kernel_rfl) (r_seq (r_region' (l_o (o_box rfl rfl rfl ?_))))
 intro b1 w1 hzl1 hzr1 _ hb1 hE1
 have hbs_b1 : w.heap.size ≤ b1 := Nat.le_trans hsz hzl1
 replace hB := below_ext hB hE1 hsz
 replace hsz := Nat.le_trans hsz hE1.size
 refine l_q (qab rfl rfl) (l_nil (r_seq (r_seq (r_region' (l_q (q_load_agg (n := 5) Tryz.isAgg29 Tryz.sizeOf29 rfl ((hb1.cells' (cs' := [_, _, _, _, _]) 0 5 rfl)) rfl rfl) (l_o (o_call Tryz.call17 rfl (thin6_ret ka kc co er sa sc se ja jc sl ra rc rl _ (hlg.below hB) hbg) rfl ?_)))))))
 rintro _ w2 ⟨bb2, rfl, -, hE2⟩
 replace hB := below_ext hB hE2 hsz
 replace hb1 := hb1.ext hE2
 replace hsz := Nat.le_trans hsz hE2.size
 refine l_q (q_not rfl rfl) (l_nil (r_cond rfl (fun hc3 => ?_) (fun hc3 => ?_)))
 ·
  replace hc3 := nt hc3
  refine r_seq (r_region' (l_o (o_call Tryz.call18 rfl (awake6_ret _) rfl ?_)))
  rintro _ w4 ⟨rfl, hE4⟩
  replace hB := below_ext hB hE4 hsz
  replace hb1 := hb1.ext hE4
  replace hsz := Nat.le_trans hsz hE4.size
  refine l_q (qab rfl rfl) (l_nil (r_ret_ (vs := [.bool _]) rfl Tryz.func4 rfl (.nil _) ⟨rfl, trivial⟩ ?_))
  exact ⟨rfl, Ext.of_below hB⟩
 ·
  replace hc3 := nf hc3
  refine r_skip (r_seq (r_region' (l_q (q_load_agg (n := 5) Tryz.isAgg29 Tryz.sizeOf29 rfl ((hb1.cells' (cs' := [_, _, _, _, _]) 0 5 rfl)) rfl rfl) (l_o (o_call Tryz.call20 rfl (log6_ret ka kc co er sa sc se ja jc sl ra rc rl _ (hlg.below hB) hbg) rfl ?_)))))
  rintro _ w5 ⟨qka5, qkc5, qsa5, qsc5, qja5, qjc5, qsl5, qra5, qrc5, rfl, hlg5, hm5, hE5⟩
  replace hB := below_ext hB hE5 hsz
  replace hb1 := hb1.ext hE5
  replace hsz := Nat.le_trans hsz hE5.size
  refine l_q (qmi rfl rfl) ?_
  have hv6 := mHeard_ret qka5 qkc5 co er qsa5 qsc5 se qja5 qjc5 qsl5 qra5 qrc5 rl n w5 hlg5 (big_same hm5 hbg) 
  rw [lg_same hm5] at hv6
  refine l_o (o_call Tryz.call26 rfl (hv6) rfl ?_)
  rintro _ w7 ⟨ta7, tc7, D7, rfl, hrt7, hri7, hD7, hE7⟩
  replace hB := below_ext hB hE7 hsz
  replace hb1 := hb1.ext hE7
  replace hlg5 := hlg5.ext hE7
  replace hsz := Nat.le_trans hsz hE7.size
  refine l_q (q_move (v := .tuple _) rfl rfl) (l_q (q_extract (vs := [_, _]) (v := .slice _ _ _) rfl rfl rfl) (l_q (q_extract (vs := [_, _]) (v := .int _ _) rfl rfl rfl) (l_q (qas rfl rfl) (l_q (qai rfl rfl) (l_nil (r_forget [(1, .int _ _), (2, .int _ _), (3, .pointer _), (7, .slice _ _ _), (8, .int _ _)] ⟨rfl, rfl, rfl, rfl, rfl, trivial⟩ (fun e8 => (r_seq (r_region' (l_q (q_load_agg (n := 5) Tryz.isAgg29 Tryz.sizeOf29 rfl ((hb1.cells' (cs' := [_, _, _, _, _]) 0 5 rfl)) rfl rfl) (l_o (o_call Tryz.call20 rfl (log6_ret ka kc co er sa sc se ja jc sl ra rc rl _ (hlg.below hB) hbg) rfl ?_))))))))))))
  rintro _ w9 ⟨qka9, qkc9, qsa9, qsc9, qja9, qjc9, qsl9, qra9, qrc9, rfl, hlg9, hm9, hE9⟩
  replace hB := below_ext hB hE9 hsz
  replace hb1 := hb1.ext hE9
  replace hlg5 := hlg5.ext hE9
  replace hrt7 := hrt7.ext hE9
  replace hri7 := hri7.ext hE9
  replace hsz := Nat.le_trans hsz hE9.size
  refine l_q (qmi rfl rfl) ?_
  have hv10 := mMasked_ret qka9 qkc9 co er qsa9 qsc9 se qja9 qjc9 qsl9 qra9 qrc9 rl m w9 hlg9 (big_same hm9 hbg) 
  rw [lg_same hm9] at hv10
  refine l_o (o_call Tryz.call27 rfl (hv10) rfl ?_)
  rintro _ w11 ⟨a11_0, c11_0, rfl, hr11_0, hE11⟩
  replace hB := below_ext hB hE11 hsz
  replace hb1 := hb1.ext hE11
  replace hlg5 := hlg5.ext hE11
  replace hrt7 := hrt7.ext hE11
  replace hri7 := hri7.ext hE11
  replace hlg9 := hlg9.ext hE11
  replace hsz := Nat.le_trans hsz hE11.size
  refine l_q (q_move (v := .tuple _) rfl rfl) (l_q (q_extract (vs := [_, _]) (v := .slice _ _ _) rfl rfl rfl) (l_q (q_extract (vs := [_, _]) (v := .int _ _) rfl rfl rfl) (l_q (qas rfl rfl) (l_q (qai rfl rfl) (l_nil (r_seq (r_draw ext_refl' ext_trans' [0, 2, 1, 3, 4, 5] [1, 3] 6 (by kernel_rfl) (by kernel_rfl) ?_)))))))
  intro w12 _ hE12
  replace hB := below_ext hB hE12 hsz
  replace hb1 := hb1.ext hE12
  replace hlg5 := hlg5.ext hE12
  replace hrt7 := hrt7.ext hE12
  replace hri7 := hri7.ext hE12
  replace hlg9 := hlg9.ext hE12
  replace hr11_0 := hr11_0.ext hE12
  replace hsz := Nat.le_trans hsz hE12.size
  refine m_q rfl rfl (fun w' hC' => q_load_agg (n := 5) Tryz.isAgg29 Tryz.sizeOf29 rfl (((hb1.cells' (cs' := [_, _, _, _, _]) 0 5 rfl).ext hC')) rfl rfl) (m_q rfl rfl (fun w' hC' => q_load_agg (n := 5) Tryz.isAgg29 Tryz.sizeOf29 rfl (((hb1.cells' (cs' := [_, _, _, _, _]) 0 5 rfl).ext hC')) rfl rfl) (m_o rfl rfl (o_call Tryz.call22 rfl (lfault6_ret ka kc co er sa sc se ja jc sl ra rc rl _ (hlg.below hB) hbg) rfl ?_)))
  rintro _ w13 ⟨rfl, hE13⟩
  refine ⟨hE13, ?_⟩
  replace hB := below_ext hB hE13 hsz
  replace hb1 := hb1.ext hE13
  replace hlg5 := hlg5.ext hE13
  replace hrt7 := hrt7.ext hE13
  replace hri7 := hri7.ext hE13
  replace hlg9 := hlg9.ext hE13
  replace hr11_0 := hr11_0.ext hE13
  replace hsz := Nat.le_trans hsz hE13.size
  refine m_o rfl rfl (o_call Tryz.call22 rfl (lfault6_ret ka kc co er sa sc se ja jc sl ra rc rl _ (hlg.below hB) hbg) rfl ?_)
  rintro _ w14 ⟨rfl, hE14⟩
  refine ⟨hE14, ?_⟩
  replace hB := below_ext hB hE14 hsz
  replace hb1 := hb1.ext hE14
  replace hlg5 := hlg5.ext hE14
  replace hrt7 := hrt7.ext hE14
  replace hri7 := hri7.ext hE14
  replace hlg9 := hlg9.ext hE14
  replace hr11_0 := hr11_0.ext hE14
  replace hsz := Nat.le_trans hsz hE14.size
  refine m_q rfl rfl (fun w' hC' => qai rfl rfl) (m_q rfl rfl (fun w' hC' => qai rfl rfl) (m_nil (r_forget [(1, .int _ _), (2, .int _ _), (3, .pointer _), (7, .slice _ _ _), (8, .int _ _), (9, .slice _ _ _), (10, .int _ _), (11, .int _ _), (12, .int _ _)] ⟨rfl, rfl, rfl, rfl, rfl, rfl, rfl, rfl, rfl, trivial⟩ (fun e15 => (r_seq ?_)))))
  refine r_ifj (α := Int) (fun wa e wl => Knows e [(1, vint n), (2, vint m), (3, ptr b1 0), (7, .slice ta7 D7.length tc7), (8, vint ((heardM (lg co er se sl rl) n).2)), (9, .slice a11_0 (((maskedM (lg co er se sl rl) m).1).length) c11_0), (10, vint ((maskedM (lg co er se sl rl) m).2)), (11, vint wa), (12, vint (faultM (lg co er se sl rl)))] ∧ (wa = (heardM (lg co er se sl rl) n).2) ∧ (Blk wl b1 [.slice ka co.length kc, vint er, .slice sa se.length sc, .slice ja sl.length jc, .slice ra rl.length rc]) ∧ (LgAt wl qka5 qkc5 co qsa5 qsc5 se qja5 qjc5 qsl5 qra5 qrc5 rl) ∧ (Row wl ta7 D7.length tc7 1 (D7.map SV.enc)) ∧ (RowsI wl D7) ∧ (LgAt wl qka9 qkc9 co qsa9 qsc9 se qja9 qjc9 qsl9 qra9 qrc9 rl) ∧ (Row wl a11_0 (((maskedM (lg co er se sl rl) m).1).length) c11_0 1 (((maskedM (lg co er se sl rl) m).1).map vint)) ∧ (w.heap.size ≤ wl.heap.size) ∧ (Below w.heap.size w wl)) ?_ ?_
  ·
   rintro wa el16 wl16 ⟨hkn, hwa, hb1, hlg5, hrt7, hri7, hlg9, hr11_0, hsz, hB⟩
   obtain ⟨e16, rfl⟩ := knows_env hkn
   refine r_seq (r_ifj (α := Int) (fun du e wl => Knows e [(1, vint n), (2, vint m), (3, ptr b1 0), (7, .slice ta7 D7.length tc7), (8, vint ((heardM (lg co er se sl rl) n).2)), (9, .slice a11_0 (((maskedM (lg co er se sl rl) m).1).length) c11_0), (10, vint ((maskedM (lg co er se sl rl) m).2)), (11, vint wa), (12, vint du)] ∧ (du = askedM (lg co er se sl rl) m) ∧ (Blk wl b1 [.slice ka co.length kc, vint er, .slice sa se.length sc, .slice ja sl.length jc, .slice ra rl.length rc]) ∧ (LgAt wl qka5 qkc5 co qsa5 qsc5 se qja5 qjc5 qsl5 qra5 qrc5 rl) ∧ (Row wl ta7 D7.length tc7 1 (D7.map SV.enc)) ∧ (RowsI wl D7) ∧ (LgAt wl qka9 qkc9 co qsa9 qsc9 se qja9 qjc9 qsl9 qra9 qrc9 rl) ∧ (Row wl a11_0 (((maskedM (lg co er se sl rl) m).1).length) c11_0 1 (((maskedM (lg co er se sl rl) m).1).map vint)) ∧ (w.heap.size ≤ wl.heap.size) ∧ (Below w.heap.size w wl)) ?_ ?_)
   ·
    rintro du el17 wl17 ⟨hkn, hdu, hb1, hlg5, hrt7, hri7, hlg9, hr11_0, hsz, hB⟩
    obtain ⟨e17, rfl⟩ := knows_env hkn
    refine r_seq (r_seq (r_region' (l_q (qmi rfl rfl) (l_q (qmi rfl rfl) (l_q (q_neq rfl rfl rfl) (l_q (qmb rfl rfl) ?_))))))
    have hk18 : (!decide (((heardM (lg co er se sl rl) n).2) = wa)) = false := by rw [hwa]; simp
    refine l_part 58 rfl (fun hx => absurd (hk18.symm.trans hx) (by decide)) (fun _ => (l_q (qmi rfl rfl) (l_q (q_neq rfl rfl rfl) (l_q (qmb rfl rfl) (l_part 61 rfl (fun hc19 => ?_) (fun hc19 => ?_))))))
    ·
     replace hc19 := df (nt hc19)
     have h61 : ¬ (heardM (lg co er se sl rl) n).2 = 0 := by rw [← hwa]; exact hc19
     have hD0 : D7.length = 0 := by have h := congrArg List.length hD7; rw [heard_err h61, List.length_map] at h; exact h
     refine l_q (qms rfl rfl) (l_q (q_len rfl Tryz.underlying47 rfl rfl) (l_q (q_gtr rfl rfl rfl) (l_q (q_pick_t (v := .bool _) rfl rfl rfl) (l_q (q_pick_f (v := .bool _) rfl rfl rfl) (l_q (qmb rfl rfl) ?_)))))
     have hk20 : (decide (0 < (D7.length : Int))) = false := decide_eq_false (by omega)
     refine l_part 67 rfl (fun hx => absurd (hk20.symm.trans hx) (by decide)) (fun _ => (l_q (qmi rfl rfl) (l_q (q_eql rfl rfl rfl) (l_q (qmb rfl rfl) ?_))))
     have hk21 : (decide (wa = 0)) = false := by rw [hwa, decide_eq_false h61]
     refine l_part 70 rfl (fun hx => absurd (hk21.symm.trans hx) (by decide)) (fun _ => (l_q (q_skip rfl) (l_q (q_skip rfl) (l_q (q_skip rfl) (l_q (q_skip rfl) (l_q (q_skip rfl) (l_q (q_skip rfl) (l_q (q_pick_f (v := .bool _) rfl rfl rfl) (l_q (q_pick_f (v := .bool _) rfl rfl rfl) (l_nil (r_forget [(2, .int _ _), (3, .pointer _), (9, .slice _ _ _), (10, .int _ _), (12, .int _ _), (78, .bool _)] ⟨rfl, rfl, rfl, rfl, rfl, rfl, trivial⟩ (fun e22 => (r_cond_f rfl (r_skip (r_seq (r_seq (r_region' (l_q (qmi rfl rfl) (l_q (q_neq rfl rfl rfl) (l_nil (r_cond rfl (fun hc23 => ?_) (fun hc23 => ?_))))))))))))))))))))))
     ·
      replace hc23 := df (nt hc23)
      have h80 : ¬ askedM (lg co er se sl rl) m = 0 := by rw [← hdu]; exact hc23
      have hms := masked_err h80
      refine r_seq (r_region' (l_q (qmi rfl rfl) (l_q (qmi rfl rfl) (l_q (q_eql rfl rfl rfl) (l_q (qmb rfl rfl) ?_)))))
      have hk24 : (decide (((maskedM (lg co er se sl rl) m).2) = du)) = true := by rw [hms, hdu]; simp
      refine l_part 84 rfl (fun _ => ?_) (fun hx => absurd (hk24.symm.trans hx) (by decide))
      refine l_q (qms rfl rfl) (l_q (q_len rfl Tryz.underlying25 rfl rfl) (l_q (q_eql rfl rfl rfl) (l_q (q_pick_t (v := .bool _) rfl rfl rfl) (l_q (qmb rfl rfl) ?_))))
      have hk25 : (decide ((((maskedM (lg co er se sl rl) m).1).length : Int) = 0)) = true := by rw [hms]; rfl
      refine l_part 89 rfl (fun _ => ?_) (fun hx => absurd (hk25.symm.trans hx) (by decide))
      refine l_o (o_call Tryz.call18 rfl (awake6_ret _) rfl ?_)
      rintro _ w26 ⟨rfl, hE26⟩
      replace hB := below_ext hB hE26 hsz
      replace hb1 := hb1.ext hE26
      replace hlg5 := hlg5.ext hE26
      replace hrt7 := hrt7.ext hE26
      replace hri7 := hri7.ext hE26
      replace hlg9 := hlg9.ext hE26
      replace hr11_0 := hr11_0.ext hE26
      replace hsz := Nat.le_trans hsz hE26.size
      refine l_q (q_pick_t (v := .bool _) rfl rfl rfl) (l_q (qab rfl rfl) (l_nil (r_forget [(6, .bool _)] ⟨rfl, trivial⟩ (fun e27 => (r_ret_ (vs := [.bool _]) rfl Tryz.func4 rfl (.nil _) ⟨rfl, trivial⟩ ?_)))))
      exact ⟨rfl, Ext.of_below hB⟩
     ·
      replace hc23 := dt (nf hc23)
      have h80 : askedM (lg co er se sl rl) m = 0 := by rw [← hdu]; have := hc23; simpa using this
      obtain ⟨hok, hm0, hm1⟩ := asked_ok h80
      have hm1 : m ≤ (rl.length : Int) - 1 := hm1
      refine r_skip (r_seq (r_region' (l_q (q_load_agg (n := 5) Tryz.isAgg29 Tryz.sizeOf29 rfl ((hb1.cells' (cs' := [_, _, _, _, _]) 0 5 rfl)) rfl rfl) (l_q (qmi rfl rfl) ?_))))
      have hrm28 := rmasked6_ret ka kc co er sa sc se ja jc sl ra rc rl m.toNat wl17 (hlg.below hB) hbg hok (by omega)
      rw [show ((m.toNat : Nat) : Int) = m by omega] at hrm28
      refine l_o (o_call Tryz.call30 rfl (hrm28) rfl ?_)
      rintro _ w29 ⟨a29_0, c29_0, rfl, hr29_0, hE29⟩
      replace hB := below_ext hB hE29 hsz
      replace hb1 := hb1.ext hE29
      replace hlg5 := hlg5.ext hE29
      replace hrt7 := hrt7.ext hE29
      replace hri7 := hri7.ext hE29
      replace hlg9 := hlg9.ext hE29
      replace hr11_0 := hr11_0.ext hE29
      replace hsz := Nat.le_trans hsz hE29.size
      refine l_q (q_move (v := .tuple _) rfl rfl) (l_q (q_extract (vs := [_, _]) (v := .slice _ _ _) rfl rfl rfl) (l_q (q_extract (vs := [_, _]) (v := .bool _) rfl rfl rfl) (l_q (qas rfl rfl) (l_q (qab rfl rfl) (l_nil (r_forget [(9, .slice _ _ _), (10, .int _ _), (13, .slice _ _ _), (14, .bool _)] ⟨rfl, rfl, rfl, rfl, trivial⟩ (fun e30 => (r_seq (r_seq (r_region' (l_q (qmb rfl rfl) (l_q (q_not rfl rfl) (l_nil (r_cond rfl (fun hc31 => ?_) (fun hc31 => ?_)))))))))))))))
      ·
       replace hc31 := nt hc31
       have hmo : maskO (lg co er se sl rl) (rl.getD m.toNat rcd0) = none := by have h := hc31; cases hq : maskO (lg co er se sl rl) (rl.getD m.toNat rcd0) with | none => rfl | some t => (rw [hq] at h; cases h)
       have hms := masked_none h80 hmo
       refine r_seq (r_region' (l_q (qmi rfl rfl) (l_q (q_eql rfl rfl rfl) (l_q (qmb rfl rfl) ?_))))
       have hk32 : (decide (((maskedM (lg co er se sl rl) m).2) = 7)) = true := by rw [hms]; rfl
       refine l_part 102 rfl (fun _ => ?_) (fun hx => absurd (hk32.symm.trans hx) (by decide))
       refine l_q (qms rfl rfl) (l_q (q_len rfl Tryz.underlying25 rfl rfl) (l_q (q_eql rfl rfl rfl) (l_q (q_pick_t (v := .bool _) rfl rfl rfl) (l_q (qmb rfl rfl) ?_))))
       have hk33 : (decide ((((maskedM (lg co er se sl rl) m).1).length : Int) = 0)) = true := by rw [hms]; rfl
       refine l_part 107 rfl (fun _ => ?_) (fun hx => absurd (hk33.symm.trans hx) (by decide))
       refine l_o (o_call Tryz.call18 rfl (awake6_ret _) rfl ?_)
       rintro _ w34 ⟨rfl, hE34⟩
       replace hB := below_ext hB hE34 hsz
       replace hb1 := hb1.ext hE34
       replace hlg5 := hlg5.ext hE34
       replace hrt7 := hrt7.ext hE34
       replace hri7 := hri7.ext hE34
       replace hlg9 := hlg9.ext hE34
       replace hr11_0 := hr11_0.ext hE34
       replace hr29_0 := hr29_0.ext hE34
       replace hsz := Nat.le_trans hsz hE34.size
       refine l_q (q_pick_t (v := .bool _) rfl rfl rfl) (l_q (qab rfl rfl) (l_nil (r_forget [(6, .bool _)] ⟨rfl, trivial⟩ (fun e35 => (r_ret_ (vs := [.bool _]) rfl Tryz.func4 rfl (.nil _) ⟨rfl, trivial⟩ ?_)))))
       exact ⟨rfl, Ext.of_below hB⟩
      ·
       replace hc31 := nf hc31
       obtain ⟨mt, hmo⟩ : ∃ t, maskO (lg co er se sl rl) (rl.getD m.toNat rcd0) = some t := by have h := hc31; cases hq : maskO (lg co er se sl rl) (rl.getD m.toNat rcd0) with | some t => exact ⟨t, rfl⟩ | none => (rw [hq] at h; cases h)
       have hms := masked_some h80 hmo
       have hml := mask_len hok hmo
       refine r_skip (r_seq (r_region' (l_q (qmi rfl rfl) (l_q (q_eql rfl rfl rfl) (l_q (qmb rfl rfl) ?_)))))
       have hk36 : (decide (((maskedM (lg co er se sl rl) m).2) = 0)) = true := by rw [hms]; rfl
       refine l_part 112 rfl (fun _ => ?_) (fun hx => absurd (hk36.symm.trans hx) (by decide))
       refine l_q (qms rfl rfl) (l_q (qms rfl rfl) (l_o (o_call Tryz.call24 rfl (same_ret _ _ ((maskedM (lg co er se sl rl) m).1) _ _ ((maskO (lg co er se sl rl) (rl.getD m.toNat rcd0)).getD []) _ hr11_0 (by rw [hms]; exact Nat.le_trans hml (by decide)) hr29_0 (by rw [hmo]; show mt.length ≤ _; omega)) rfl ?_)))
       rintro _ w37 ⟨rfl, hE37⟩
       replace hB := below_ext hB hE37 hsz
       replace hb1 := hb1.ext hE37
       replace hlg5 := hlg5.ext hE37
       replace hrt7 := hrt7.ext hE37
       replace hri7 := hri7.ext hE37
       replace hlg9 := hlg9.ext hE37
       replace hr11_0 := hr11_0.ext hE37
       replace hsz := Nat.le_trans hsz hE37.size
       refine l_q (q_pick_t (v := .bool _) rfl rfl rfl) (l_q (qmb rfl rfl) ?_)
       have hk38 : (decide (((maskedM (lg co er se sl rl) m).1) = ((maskO (lg co er se sl rl) (rl.getD m.toNat rcd0)).getD []))) = true := by rw [hms, hmo]; simp
       refine l_part 117 rfl (fun _ => ?_) (fun hx => absurd (hk38.symm.trans hx) (by decide))
       refine l_o (o_call Tryz.call18 rfl (awake6_ret _) rfl ?_)
       rintro _ w39 ⟨rfl, hE39⟩
       replace hB := below_ext hB hE39 hsz
       replace hb1 := hb1.ext hE39
       replace hlg5 := hlg5.ext hE39
       replace hrt7 := hrt7.ext hE39
       replace hri7 := hri7.ext hE39
       replace hlg9 := hlg9.ext hE39
       replace hr11_0 := hr11_0.ext hE39
       replace hsz := Nat.le_trans hsz hE39.size
       refine l_q (q_pick_t (v := .bool _) rfl rfl rfl) (l_q (qab rfl rfl) (l_nil (r_forget [(6, .bool _)] ⟨rfl, trivial⟩ (fun e40 => (r_ret_ (vs := [.bool _]) rfl Tryz.func4 rfl (.nil _) ⟨rfl, trivial⟩ ?_)))))
       exact ⟨rfl, Ext.of_below hB⟩
    ·
     replace hc19 := dt (nf hc19)
     have h61 : (heardM (lg co er se sl rl) n).2 = 0 := by rw [← hwa]; have := hc19; simpa using this
     obtain ⟨hok, htx⟩ := heard_ok h61
     refine l_q (q_skip rfl) (l_q (q_skip rfl) (l_q (q_skip rfl) (l_q (q_pick_f (v := .bool _) rfl rfl rfl) (l_q (q_pick_f (v := .bool _) rfl rfl rfl) (l_q (qmb rfl rfl) (l_q (qmi rfl rfl) (l_q (q_eql rfl rfl rfl) (l_q (qmb rfl rfl) ?_))))))))
     have hk41 : (decide (wa = 0)) = true := by rw [hwa, decide_eq_true h61]
     refine l_part 70 rfl (fun _ => ?_) (fun hx => absurd (hk41.symm.trans hx) (by decide))
     refine l_q (qms rfl rfl) (l_q (q_load_agg (n := 5) Tryz.isAgg29 Tryz.sizeOf29 rfl ((hb1.cells' (cs' := [_, _, _, _, _]) 0 5 rfl)) rfl rfl) (l_q (qmi rfl rfl) (l_o (o_call Tryz.call29 rfl (rheard6_ret ka kc co er sa sc se ja jc sl ra rc rl n _ (hlg.below hB) hbg hok) rfl ?_))))
     rintro _ w42 ⟨ta42, tc42, D42, rfl, hrt42, hri42, hDr42, hE42⟩
     replace hB := below_ext hB hE42 hsz
     replace hb1 := hb1.ext hE42
     replace hlg5 := hlg5.ext hE42
     replace hrt7 := hrt7.ext hE42
     replace hri7 := hri7.ext hE42
     replace hlg9 := hlg9.ext hE42
     replace hr11_0 := hr11_0.ext hE42
     replace hsz := Nat.le_trans hsz hE42.size
     obtain ⟨hl1, hx1⟩ := tx_two hok (hD7.trans htx)
     obtain ⟨hl2, hx2⟩ := tx_two hok hDr42
     refine l_o (o_call Tryz.call28 rfl (lsame6_ret _ _ D7 _ _ D42 _ hrt7 hri7 (by omega) hx1 hrt42 hri42 (by omega) hx2) rfl ?_)
     rintro _ w43 ⟨rfl, hE43⟩
     replace hB := below_ext hB hE43 hsz
     replace hb1 := hb1.ext hE43
     replace hlg5 := hlg5.ext hE43
     replace hrt7 := hrt7.ext hE43
     replace hri7 := hri7.ext hE43
     replace hlg9 := hlg9.ext hE43
     replace hr11_0 := hr11_0.ext hE43
     replace hsz := Nat.le_trans hsz hE43.size
     refine l_q (q_not rfl rfl) (l_q (q_pick_t (v := .bool _) rfl rfl rfl) (l_q (q_pick_f (v := .bool _) rfl rfl rfl) (l_nil (r_forget [(2, .int _ _), (3, .pointer _), (9, .slice _ _ _), (10, .int _ _), (12, .int _ _), (78, .bool _)] ⟨rfl, rfl, rfl, rfl, rfl, rfl, trivial⟩ (fun e44 => ?_)))))
     have hk45 : (!(decide (D7.map (·.xs) = D42.map (·.xs)))) = false := by rw [decide_eq_true (show D7.map (·.xs) = D42.map (·.xs) by rw [hD7, htx, hDr42])]; rfl
     refine r_cond_f ((congrArg Value.bool hk45 : Value.bool _ = _)) (r_skip (r_seq (r_seq (r_region' (l_q (qmi rfl rfl) (l_q (q_neq rfl rfl rfl) (l_nil (r_cond rfl (fun hc46 => ?_) (fun hc46 => ?_)))))))))
     ·
      replace hc46 := df (nt hc46)
      have h80 : ¬ askedM (lg co er se sl rl) m = 0 := by rw [← hdu]; exact hc46
      have hms := masked_err h80
      refine r_seq (r_region' (l_q (qmi rfl rfl) (l_q (qmi rfl rfl) (l_q (q_eql rfl rfl rfl) (l_q (qmb rfl rfl) ?_)))))
      have hk47 : (decide (((maskedM (lg co er se sl rl) m).2) = du)) = true := by rw [hms, hdu]; simp
      refine l_part 84 rfl (fun _ => ?_) (fun hx => absurd (hk47.symm.trans hx) (by decide))
      refine l_q (qms rfl rfl) (l_q (q_len rfl Tryz.underlying25 rfl rfl) (l_q (q_eql rfl rfl rfl) (l_q (q_pick_t (v := .bool _) rfl rfl rfl) (l_q (qmb rfl rfl) ?_))))
      have hk48 : (decide ((((maskedM (lg co er se sl rl) m).1).length : Int) = 0)) = true := by rw [hms]; rfl
      refine l_part 89 rfl (fun _ => ?_) (fun hx => absurd (hk48.symm.trans hx) (by decide))
      refine l_o (o_call Tryz.call18 rfl (awake6_ret _) rfl ?_)
      rintro _ w49 ⟨rfl, hE49⟩
      replace hB := below_ext hB hE49 hsz
      replace hb1 := hb1.ext hE49
      replace hlg5 := hlg5.ext hE49
      replace hrt7 := hrt7.ext hE49
      replace hri7 := hri7.ext hE49
      replace hlg9 := hlg9.ext hE49
      replace hr11_0 := hr11_0.ext hE49
      replace hsz := Nat.le_trans hsz hE49.size
      refine l_q (q_pick_t (v := .bool _) rfl rfl rfl) (l_q (qab rfl rfl) (l_nil (r_forget [(6, .bool _)] ⟨rfl, trivial⟩ (fun e50 => (r_ret_ (vs := [.bool _]) rfl Tryz.func4 rfl (.nil _) ⟨rfl, trivial⟩ ?_)))))
      exact ⟨rfl, Ext.of_below hB⟩
     ·
      replace hc46 := dt (nf hc46)
      have h80 : askedM (lg co er se sl rl) m = 0 := by rw [← hdu]; have := hc46; simpa using this
      obtain ⟨hok, hm0, hm1⟩ := asked_ok h80
      have hm1 : m ≤ (rl.length : Int) - 1 := hm1
      refine r_skip (r_seq (r_region' (l_q (q_load_agg (n := 5) Tryz.isAgg29 Tryz.sizeOf29 rfl ((hb1.cells' (cs' := [_, _, _, _, _]) 0 5 rfl)) rfl rfl) (l_q (qmi rfl rfl) ?_))))
      have hrm51 := rmasked6_ret ka kc co er sa sc se ja jc sl ra rc rl m.toNat w43 (hlg.below hB) hbg hok (by omega)
      rw [show ((m.toNat : Nat) : Int) = m by omega] at hrm51
      refine l_o (o_call Tryz.call30 rfl (hrm51) rfl ?_)
      rintro _ w52 ⟨a52_0, c52_0, rfl, hr52_0, hE52⟩
      replace hB := below_ext hB hE52 hsz
      replace hb1 := hb1.ext hE52
      replace hlg5 := hlg5.ext hE52
      replace hrt7 := hrt7.ext hE52
      replace hri7 := hri7.ext hE52
      replace hlg9 := hlg9.ext hE52
      replace hr11_0 := hr11_0.ext hE52
      replace hsz := Nat.le_trans hsz hE52.size
      refine l_q (q_move (v := .tuple _) rfl rfl) (l_q (q_extract (vs := [_, _]) (v := .slice _ _ _) rfl rfl rfl) (l_q (q_extract (vs := [_, _]) (v := .bool _) rfl rfl rfl) (l_q (qas rfl rfl) (l_q (qab rfl rfl) (l_nil (r_forget [(9, .slice _ _ _), (10, .int _ _), (13, .slice _ _ _), (14, .bool _)] ⟨rfl, rfl, rfl, rfl, trivial⟩ (fun e53 => (r_seq (r_seq (r_region' (l_q (qmb rfl rfl) (l_q (q_not rfl rfl) (l_nil (r_cond rfl (fun hc54 => ?_) (fun hc54 => ?_)))))))))))))))
      ·
       replace hc54 := nt hc54
       have hmo : maskO (lg co er se sl rl) (rl.getD m.toNat rcd0) = none := by have h := hc54; cases hq : maskO (lg co er se sl rl) (rl.getD m.toNat rcd0) with | none => rfl | some t => (rw [hq] at h; cases h)
       have hms := masked_none h80 hmo
       refine r_seq (r_region' (l_q (qmi rfl rfl) (l_q (q_eql rfl rfl rfl) (l_q (qmb rfl rfl) ?_))))
       have hk55 : (decide (((maskedM (lg co er se sl rl) m).2) = 7)) = true := by rw [hms]; rfl
       refine l_part 102 rfl (fun _ => ?_) (fun hx => absurd (hk55.symm.trans hx) (by decide))
       refine l_q (qms rfl rfl) (l_q (q_len rfl Tryz.underlying25 rfl rfl) (l_q (q_eql rfl rfl rfl) (l_q (q_pick_t (v := .bool _) rfl rfl rfl) (l_q (qmb rfl rfl) ?_))))
       have hk56 : (decide ((((maskedM (lg co er se sl rl) m).1).length : Int) = 0)) = true := by rw [hms]; rfl
       refine l_part 107 rfl (fun _ => ?_) (fun hx => absurd (hk56.symm.trans hx) (by decide))
       refine l_o (o_call Tryz.call18 rfl (awake6_ret _) rfl ?_)
       rintro _ w57 ⟨rfl, hE57⟩
       replace hB := below_ext hB hE57 hsz
       replace hb1 := hb1.ext hE57
       replace hlg5 := hlg5.ext hE57
       replace hrt7 := hrt7.ext hE57
       replace hri7 := hri7.ext hE57
       replace hlg9 := hlg9.ext hE57
       replace hr11_0 := hr11_0.ext hE57
       replace hr52_0 := hr52_0.ext hE57
       replace hsz := Nat.le_trans hsz hE57.size
       refine l_q (q_pick_t (v := .bool _) rfl rfl rfl) (l_q (qab rfl rfl) (l_nil (r_forget [(6, .bool _)] ⟨rfl, trivial⟩ (fun e58 => (r_ret_ (vs := [.bool _]) rfl Tryz.func4 rfl (.nil _) ⟨rfl, trivial⟩ ?_)))))
       exact ⟨rfl, Ext.of_below hB⟩
      ·
       replace hc54 := nf hc54
       obtain ⟨mt, hmo⟩ : ∃ t, maskO (lg co er se sl rl) (rl.getD m.toNat rcd0) = some t := by have h := hc54; cases hq : maskO (lg co er se sl rl) (rl.getD m.toNat rcd0) with | some t => exact ⟨t, rfl⟩ | none => (rw [hq] at h; cases h)
       have hms := masked_some h80 hmo
       have hml := mask_len hok hmo
       refine r_skip (r_seq (r_region' (l_q (qmi rfl rfl) (l_q (q_eql rfl rfl rfl) (l_q (qmb rfl rfl) ?_)))))
       have hk59 : (decide (((maskedM (lg co er se sl rl) m).2) = 0)) = true := by rw [hms]; rfl
       refine l_part 112 rfl (fun _ => ?_) (fun hx => absurd (hk59.symm.trans hx) (by decide))
       refine l_q (qms rfl rfl) (l_q (qms rfl rfl) (l_o (o_call Tryz.call24 rfl (same_ret _ _ ((maskedM (lg co er se sl rl) m).1) _ _ ((maskO (lg co er se sl rl) (rl.getD m.toNat rcd0)).getD []) _ hr11_0 (by rw [hms]; exact Nat.le_trans hml (by decide)) hr52_0 (by rw [hmo]; show mt.length ≤ _; omega)) rfl ?_)))
       rintro _ w60 ⟨rfl, hE60⟩
       replace hB := below_ext hB hE60 hsz
       replace hb1 := hb1.ext hE60
       replace hlg5 := hlg5.ext hE60
       replace hrt7 := hrt7.ext hE60
       replace hri7 := hri7.ext hE60
       replace hlg9 := hlg9.ext hE60
       replace hr11_0 := hr11_0.ext hE60
       replace hsz := Nat.le_trans hsz hE60.size
       refine l_q (q_pick_t (v := .bool _) rfl rfl rfl) (l_q (qmb rfl rfl) ?_)
       have hk61 : (decide (((maskedM (lg co er se sl rl) m).1) = ((maskO (lg co er se sl rl) (rl.getD m.toNat rcd0)).getD []))) = true := by rw [hms, hmo]; simp
       refine l_part 117 rfl (fun _ => ?_) (fun hx => absurd (hk61.symm.trans hx) (by decide))
       refine l_o (o_call Tryz.call18 rfl (awake6_ret _) rfl ?_)
       rintro _ w62 ⟨rfl, hE62⟩
       replace hB := below_ext hB hE62 hsz
       replace hb1 := hb1.ext hE62
       replace hlg5 := hlg5.ext hE62
       replace hrt7 := hrt7.ext hE62
       replace hri7 := hri7.ext hE62
       replace hlg9 := hlg9.ext hE62
       replace hr11_0 := hr11_0.ext hE62
       replace hsz := Nat.le_trans hsz hE62.size
       refine l_q (q_pick_t (v := .bool _) rfl rfl rfl) (l_q (qab rfl rfl) (l_nil (r_forget [(6, .bool _)] ⟨rfl, trivial⟩ (fun e63 => (r_ret_ (vs := [.bool _]) rfl Tryz.func4 rfl (.nil _) ⟨rfl, trivial⟩ ?_)))))
       exact ⟨rfl, Ext.of_below hB⟩
   · intro hj17
     refine r_seq (r_region' (l_q (qmi rfl rfl) (l_q (q_eql rfl rfl rfl) (l_q (qmb rfl rfl) (l_part 46 rfl (fun hc64 => ?_) (fun hc64 => ?_))))))
     ·
      replace hc64 := dt hc64
      have hok : faultM (lg co er se sl rl) = 0 := hc64
      refine l_q (qmi rfl rfl) (l_q (q_fieldAddr (o' := 4) rfl fld29_4 rfl) (l_q (q_load Tryz.isAgg27 rfl ((hb1.has (o := 4) rfl)) rfl) (l_q (q_len rfl Tryz.underlying27 rfl rfl) (l_q (q_sub rfl rfl (by omega) rfl) (l_o (o_call Tryz.call23 rfl (in6_ret _ _ _ _) rfl ?_))))))
      rintro _ w65 ⟨rfl, rfl⟩
      refine l_q (q_not rfl rfl) (l_q (q_pick_t (v := .bool _) rfl rfl rfl) (l_nil (r_forget [(1, .int _ _), (2, .int _ _), (3, .pointer _), (7, .slice _ _ _), (8, .int _ _), (9, .slice _ _ _), (10, .int _ _), (11, .int _ _), (12, .int _ _), (54, .bool _)] ⟨rfl, rfl, rfl, rfl, rfl, rfl, rfl, rfl, rfl, rfl, trivial⟩ (fun e66 => (r_cond rfl (fun hc67 => ?_) (fun hc67 => ?_))))))
      ·
       replace hc67 := b2f (nt hc67)
       refine r_region' (l_q (qai rfl rfl) (l_nil ?_))
       exact hj17 2 _ _ ⟨⟨rfl, rfl, rfl, rfl, rfl, rfl, rfl, rfl, rfl, trivial⟩, (by rw [asked_B hok (show ¬ (0 ≤ m ∧ m ≤ (rl.length : Int) - 1) by omega)]), hb1, hlg5, hrt7, hri7, hlg9, hr11_0, hsz, hB⟩
      ·
       replace hc67 := b2t (nf hc67)
       refine r_skip ?_
       exact hj17 (faultM (lg co er se sl rl)) _ _ ⟨⟨rfl, rfl, rfl, rfl, rfl, rfl, rfl, rfl, rfl, trivial⟩, (by rw [asked_C hok (show 0 ≤ m ∧ m ≤ (rl.length : Int) - 1 by omega)]; exact hok), hb1, hlg5, hrt7, hri7, hlg9, hr11_0, hsz, hB⟩
     ·
      replace hc64 := df hc64
      have h46 : ¬ faultM (lg co er se sl rl) = 0 := hc64
      refine l_q (q_skip rfl) (l_q (q_skip rfl) (l_q (q_skip rfl) (l_q (q_skip rfl) (l_q (q_skip rfl) (l_q (q_skip rfl) (l_q (q_skip rfl) (l_q (q_pick_f (v := .bool _) rfl rfl rfl) (l_nil (r_forget [(1, .int _ _), (2, .int _ _), (3, .pointer _), (7, .slice _ _ _), (8, .int _ _), (9, .slice _ _ _), (10, .int _ _), (11, .int _ _), (12, .int _ _), (54, .bool _)] ⟨rfl, rfl, rfl, rfl, rfl, rfl, rfl, rfl, rfl, rfl, trivial⟩ (fun e68 => (r_cond_f rfl (r_skip ?_))))))))))))
      exact hj17 (faultM (lg co er se sl rl)) _ _ ⟨⟨rfl, rfl, rfl, rfl, rfl, rfl, rfl, rfl, rfl, trivial⟩, (by rw [asked_A h46]), hb1, hlg5, hrt7, hri7, hlg9, hr11_0, hsz, hB⟩
  · intro hj16
    refine r_seq (r_region' (l_q (qmi rfl rfl) (l_q (q_eql rfl rfl rfl) (l_q (qmb rfl rfl) (l_part 39 rfl (fun hc69 => ?_) (fun hc69 => ?_))))))
    ·
     replace hc69 := dt hc69
     have hok : faultM (lg co er se sl rl) = 0 := hc69
     refine l_q (qmi rfl rfl) (l_o (o_call Tryz.call23 rfl (in6_ret _ _ _ _) rfl ?_))
     rintro _ w70 ⟨rfl, rfl⟩
     refine l_q (q_not rfl rfl) (l_q (q_pick_t (v := .bool _) rfl rfl rfl) (l_nil (r_cond rfl (fun hc71 => ?_) (fun hc71 => ?_))))
     ·
      replace hc71 := b2f (nt hc71)
      have h43 : hourB n = false := hour_no (by omega)
      refine r_region' (l_q (qai rfl rfl) (l_nil ?_))
      exact hj16 2 _ _ ⟨⟨rfl, rfl, rfl, rfl, rfl, rfl, rfl, rfl, rfl, trivial⟩, (by rw [heardM_2 hok h43]), hb1, hlg5, hrt7, hri7, hlg9, hr11_0, hsz, hB⟩
     ·
      replace hc71 := b2t (nf hc71)
      have h43 : hourB n = true := hour_yes (by omega)
      refine r_skip ?_
      exact hj16 (faultM (lg co er se sl rl)) _ _ ⟨⟨rfl, rfl, rfl, rfl, rfl, rfl, rfl, rfl, rfl, trivial⟩, (by rw [heardM_0 hok h43]; exact hok), hb1, hlg5, hrt7, hri7, hlg9, hr11_0, hsz, hB⟩
    ·
     replace hc69 := df hc69
     have h39 : ¬ faultM (lg co er se sl rl) = 0 := hc69
     refine l_q (q_skip rfl) (l_q (q_skip rfl) (l_q (q_skip rfl) (l_q (q_pick_f (v := .bool _) rfl rfl rfl) (l_nil (r_cond_f rfl (r_skip ?_))))))
     exact hj16 (faultM (lg co er se sl rl)) _ _ ⟨⟨rfl, rfl, rfl, rfl, rfl, rfl, rfl, rfl, rfl, trivial⟩, (by rw [heardM_f h39]), hb1, hlg5, hrt7, hri7, hlg9, hr11_0, hsz, hB⟩
end Go.Proofs.YtekkdhpgcilpdaaGreat
