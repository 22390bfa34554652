/- Contracts. -/
import Derived.Test.YtekkdhpgcilpdaaGreatM12
import Derived.Test.YtekkdhpgcilpdaaGreatF21
set_option linter.unusedVariables false
set_option linter.unusedSimpArgs false
namespace Go.Proofs.YtekkdhpgcilpdaaGreat
open Go Go.RowKit Go.Gv Go.Fl
theorem reads6_eq {co : List Sg} {er : Int} {se : List Int} {sl : List SN} {rl : List RC} {xs : List Int} {s : Sg} (her : er ≤ 3) : (decide (fe 1000 (signs co xs) s < 1000) && decide (fe 1000 (signs co xs) s ≤ er)) = readsB (lg co er se sl rl) xs s := by
  unfold readsB lg
  rw [fe_min]
  dsimp only
  rw [← Bool.decide_and, decide_eq_decide]
  omega
theorem rreads6_ret (ka : Option Addr) (kc : Nat) (co : List Sg) (er : Int) (sa : Option Addr) (sc : Nat) (se : List Int) (ja : Option Addr) (jc : Nat) (sl : List SN) (ra : Option Addr) (rc : Nat) (rl : List RC) (xa : Option Addr) (xc : Nat) (xs : List Int) (n : Nat) (w : World) (hlg : LgAt w ka kc co sa sc se ja jc sl ra rc rl) (hbg : LgBig co er se sl rl) (hx : Row w xa xs.length xc 1 (xs.map vint)) (hxn : xs.length ≤ 2097152) (hok : faultM (lg co er se sl rl) = 0) (hn : n < rl.length) (hx5 : xs.length ≤ 5) (htx : isText co xs = true) : Ret Tryz.prog 72 [.agg ⟨[.slice ka co.length kc, vint er, .slice sa se.length sc, .slice ja sl.length jc, .slice ra rl.length rc]⟩, .slice xa xs.length xc, vint (n : Int)] w (fun v w' => v = .bool (readsB (lg co er se sl rl) xs (rl.getD n rcd0).s) ∧ Ext w w') := by
 obtain ⟨⟨hcn, hcl⟩, hen, hsn, ⟨hjn, hjl⟩, hrn, hrl⟩ := id hbg
 obtain ⟨⟨hs1, hs4⟩, hj8, hr6, hf0, ⟨he0, he3⟩, hsr, hJn, hRn⟩ := lg_ok hok
 obtain ⟨⟨hrh0, hrh⟩, ⟨hrs0, hrs⟩, hrsf⟩ := hRn _ (getD_lt (d := rcd0) hn)
 have hr40 := sf_len hrsf
 have hrf := hrl _ (getD_lt (d := rcd0) hn)
 have hsl := send_len hf0 hx5 htx
 have hB := Below.refl w.heap.size w
 have hsz : w.heap.size ≤ w.heap.size := Nat.le_refl _
 refine ret_of_runs (args := [_, _, _]) Tryz.func72 rfl (Nat.le_of_ble_eq_true rfl) (by kernel_rfl) (r_seq (r_region' (l_o (o_box rfl rfl rfl ?_))))
 intro b1 w1 hzl1 hzr1 _ hb1 hE1
 have hbs_b1 : w.heap.size ≤ b1 := Nat.le_trans hsz hzl1
 replace hB := below_ext hB hE1 hsz
 replace hsz := Nat.le_trans hsz hE1.size
 refine l_q (qab rfl rfl) (l_nil (r_seq (r_draw ext_refl' ext_trans' [0, 1, 2, 4, 5, 6, 7, 8, 9, 3, 10, 11, 12, 13, 14, 15] [3, 10] 6 (by kernel_rfl) (by kernel_rfl) ?_)))
 intro w2 _ hE2
 replace hB := below_ext hB hE2 hsz
 replace hb1 := hb1.ext hE2
 replace hsz := Nat.le_trans hsz hE2.size
 refine m_q rfl rfl (fun w' hC' => q_fieldAddr (o' := 0) rfl fld29_0 rfl) (m_q rfl rfl (fun w' hC' => q_load_agg (n := 1) Tryz.isAgg24 Tryz.sizeOf24 rfl (((hb1.cells' (cs' := [_]) 0 1 rfl).ext hC')) rfl rfl) (m_q rfl rfl (fun w' hC' => qms rfl rfl) (m_q rfl rfl (fun w' hC' => q_fieldAddr (o' := 4) rfl fld29_4 rfl) (m_q rfl rfl (fun w' hC' => q_load Tryz.isAgg27 rfl (((hb1.has (o := 4) rfl).ext hC')) rfl) (m_q rfl rfl (fun w' hC' => qmi rfl rfl) ?_)))))
 obtain ⟨b3, o3, ha3, hh3⟩ := (hlg.rrl.below hB).at (by decide) n (by omega)
 refine m_q rfl rfl (fun w' hC' => q_indexAddr Tryz.underlying27 Tryz.sizeOf61 rfl ha3 rfl (by omega) rfl) (m_q rfl rfl (fun w' hC' => q_fieldAddr (o' := 2) rfl fld61_2 rfl) (m_q rfl rfl (fun w' hC' => q_load Tryz.isAgg9 rfl ((((cells_cast (wide_at RC.len rcd0 _ _ (by omega)) hh3) 2 _ rfl).ext hC')) rfl) (m_o rfl rfl (o_call Tryz.call81 rfl (refSigns_ret _ _ co _ _ xs _ (hlg.rco.below hB) (by omega) (hx.below hB) (by omega) hf0 htx) rfl ?_))))
 rintro _ w4 ⟨rfl, hE4⟩
 refine ⟨hE4, ?_⟩
 replace hB := below_ext hB hE4 hsz
 replace hb1 := hb1.ext hE4
 replace hsz := Nat.le_trans hsz hE4.size
 refine m_o rfl rfl (o_call Tryz.call105 rfl (rerrors_ret (signs co xs) (rl.getD n rcd0).s _ hsl hr40) rfl ?_)
 rintro _ w5 ⟨rfl, hE5⟩
 refine ⟨hE5, ?_⟩
 replace hB := below_ext hB hE5 hsz
 replace hb1 := hb1.ext hE5
 replace hsz := Nat.le_trans hsz hE5.size
 refine m_q rfl rfl (fun w' hC' => q_move (v := .tuple _) rfl rfl) (m_q rfl rfl (fun w' hC' => q_extract (vs := [_, _]) (v := .int _ _) rfl rfl rfl) (m_q rfl rfl (fun w' hC' => q_extract (vs := [_, _]) (v := .bool _) rfl rfl rfl) (m_q rfl rfl (fun w' hC' => qai rfl rfl) (m_q rfl rfl (fun w' hC' => qab rfl rfl) (m_nil (r_forget [(3, .pointer _), (7, .int _ _), (8, .bool _)] ⟨rfl, rfl, rfl, trivial⟩ (fun e6 => (r_seq (r_region' (l_q (qmb rfl rfl) (l_q (qmb rfl rfl) (l_part 24 rfl (fun hc7 => ?_) (fun hc7 => ?_)))))))))))))
 ·
  replace hc7 := dt hc7
  have g24 := hc7
  refine l_q (qmi rfl rfl) (l_q (q_fieldAddr (o' := 1) rfl fld29_1 rfl) (l_q (q_load Tryz.isAgg3 rfl ((hb1.has (o := 1) rfl)) rfl) (l_q (q_leq rfl rfl rfl) (l_q (q_pick_t (v := .bool _) rfl rfl rfl) (l_q (qab rfl rfl) (l_nil (r_forget [(6, .bool _)] ⟨rfl, trivial⟩ (fun e8 => (r_ret_ (vs := [.bool _]) rfl Tryz.func72 rfl (.nil _) ⟨rfl, trivial⟩ ?_)))))))))
  exact ⟨vbool_eq (by rw [← reads6_eq (co := co) (er := er) (se := se) (sl := sl) (rl := rl) he3]; first | (rw [decide_eq_true g24]; rfl) | (rw [decide_eq_false (by omega)]; rfl) | (rw [g24]; rfl)), Ext.of_below hB⟩
 ·
  replace hc7 := dlt hc7
  have g24 := hc7
  refine l_q (q_skip rfl) (l_q (q_skip rfl) (l_q (q_skip rfl) (l_q (q_skip rfl) (l_q (q_pick_f (v := .bool _) rfl rfl rfl) (l_q (qab rfl rfl) (l_nil (r_forget [(6, .bool _)] ⟨rfl, trivial⟩ (fun e9 => (r_ret_ (vs := [.bool _]) rfl Tryz.func72 rfl (.nil _) ⟨rfl, trivial⟩ ?_)))))))))
  exact ⟨vbool_eq (by rw [← reads6_eq (co := co) (er := er) (se := se) (sl := sl) (rl := rl) he3]; first | (rw [decide_eq_true g24]; rfl) | (rw [decide_eq_false (by omega)]; rfl) | (rw [g24]; rfl)), Ext.of_below hB⟩
theorem isOwn6_ret (ka : Option Addr) (kc : Nat) (co : List Sg) (er : Int) (sa : Option Addr) (sc : Nat) (se : List Int) (ja : Option Addr) (jc : Nat) (sl : List SN) (ra : Option Addr) (rc : Nat) (rl : List RC) (n k : Nat) (w : World) (hlg : LgAt w ka kc co sa sc se ja jc sl ra rc rl) (hbg : LgBig co er se sl rl) (hok : faultM (lg co er se sl rl) = 0) (hn : n < rl.length) (hks : k < sl.length) : Ret Tryz.prog 67 [.agg ⟨[.slice ka co.length kc, vint er, .slice sa se.length sc, .slice ja sl.length jc, .slice ra rl.length rc]⟩, vint (n : Int), vint (k : Int)] w (fun v w' => v = .bool (ownB (lg co er se sl rl) (rl.getD n rcd0) (sl.getD k sn00).pn) ∧ Ext w w') := by
 obtain ⟨⟨hcn, hcl⟩, hen, hsn, ⟨hjn, hjl⟩, hrn, hrl⟩ := id hbg
 obtain ⟨⟨hs1, hs4⟩, hj8, hr6, hf0, ⟨he0, he3⟩, hsr, hJn, hRn⟩ := lg_ok hok
 obtain ⟨⟨hrh0, hrh⟩, ⟨hrs0, hrs⟩, hrsf⟩ := hRn _ (getD_lt (d := rcd0) hn)
 have hr40 := sf_len hrsf
 have hrf := hrl _ (getD_lt (d := rcd0) hn)
 have hjx := hjl _ (getD_lt (d := sn00) hks)
 have hsx := sn_of hJn hks
 have hB := Below.refl w.heap.size w
 have hsz : w.heap.size ≤ w.heap.size := Nat.le_refl _
 refine ret_of_runs (args := [_, _, _]) Tryz.func67 rfl (Nat.le_of_ble_eq_true rfl) (by kernel_rfl) (r_seq (r_region' (l_o (o_box rfl rfl rfl ?_))))
 intro b1 w1 hzl1 hzr1 _ hb1 hE1
 have hbs_b1 : w.heap.size ≤ b1 := Nat.le_trans hsz hzl1
 replace hB := below_ext hB hE1 hsz
 replace hsz := Nat.le_trans hsz hE1.size
 refine l_q (qab rfl rfl) (l_nil (r_seq ?_))
 have hszR : w.heap.size ≤ w1.heap.size := hsz
 have hszW : w1.heap.size ≤ w1.heap.size := Nat.le_refl _
 have hltR_b1 := hb1.lt
 refine r_draw3 (Below.refl w1.heap.size) (fun _ _ _ h1 h2 => h1.trans h2) (.op 0 (.op 1 (.op 2 (.op 3 (.op 4 (.op 5 (.op 6 (.op 7 (.op 8 (.op 9 (.fork 10 (.op 11 (.op 12 (.op 13 (.done)))) (.op 11 (.op 10 (.op 12 (.op 13 (.done)))))))))))))))) [10, 11, 12, 13] 6 (by kernel_rfl) (by kernel_rfl) ?_
 intro w2 hqw2 hE2
 replace hB := below_ext hB hE2 hsz
 replace hb1 := hb1.ext hE2
 replace hszW := Nat.le_trans hszW hE2.size
 replace hsz := Nat.le_trans hsz hE2.size
 refine m_q3 rfl rfl (fun w' hC' => q_fieldAddr (o' := 4) rfl fld29_4 rfl) (m_q3 rfl rfl (fun w' hC' => q_load Tryz.isAgg27 rfl (((hb1.keep (hC'.block _ hltR_b1)).has (o := 4) rfl)) rfl) (m_q3 rfl rfl (fun w' hC' => qmi rfl rfl) ?_))
 obtain ⟨b3, o3, ha3, hh3⟩ := (hlg.rrl.below hB).at (by decide) n (by omega)
 refine m_q3 rfl rfl (fun w' hC' => q_indexAddr Tryz.underlying27 Tryz.sizeOf61 rfl ha3 rfl (by omega) rfl) (m_q3 rfl rfl (fun w' hC' => q_load_agg (cs := [vint (((rl).getD n rcd0).h), vint (((rl).getD n rcd0).st), vstr (((rl).getD n rcd0).s)]) (n := 3) Tryz.isAgg61 Tryz.sizeOf61 rfl (((cells_cast (wide_at RC.len rcd0 _ _ (by omega)) hh3).ext (.of_below (by rw [hqw2]; exact hC')))) rfl rfl) (m_q3 rfl rfl (fun w' hC' => q_fieldAddr (o' := 3) rfl fld29_3 rfl) (m_q3 rfl rfl (fun w' hC' => q_load Tryz.isAgg26 rfl (((hb1.keep (hC'.block _ hltR_b1)).has (o := 3) rfl)) rfl) (m_q3 rfl rfl (fun w' hC' => qmi rfl rfl) ?_))))
 obtain ⟨b4, o4, ha4, hh4⟩ := (hlg.rsl.below hB).at (by decide) k (by omega)
 refine m_q3 rfl rfl (fun w' hC' => q_indexAddr Tryz.underlying26 Tryz.sizeOf69 rfl ha4 rfl (by omega) rfl) (m_q3 rfl rfl (fun w' hC' => q_load_agg (cs := [vint (((sl).getD k sn00).h), vint (((sl).getD k sn00).st), .slice (((sl).getD k sn00).a) (((sl).getD k sn00).xs.length) (((sl).getD k sn00).c)]) (n := 3) Tryz.isAgg69 Tryz.sizeOf69 rfl (((cells_cast (wide_at SN.len sn00 _ _ (by omega)) hh4).ext (.of_below (by rw [hqw2]; exact hC')))) rfl rfl) (m_fork3 ?_ ?_))
 ·
  refine m_o3 rfl rfl (o_alloc Tryz.zeroValue61 rfl rfl ?_)
  intro b5 w5 hzl5 hzr5 _ hb5 hE5
  refine ⟨(below_ext_of hE5 hszW), ?_⟩
  have hne_b1_b5 : b1 ≠ b5 := by have := hb1.lt; omega
  have hbs_b5 : w.heap.size ≤ b5 := Nat.le_trans hsz hzl5
  have hWp_b5 := hszW
  have hbW_b5 := Nat.le_trans hszW hzl5
  replace hB := below_ext hB hE5 hsz
  replace hb1 := hb1.ext hE5
  replace hszW := Nat.le_trans hszW hE5.size
  replace hsz := Nat.le_trans hsz hE5.size
  refine m_o3 rfl rfl (o_alloc Tryz.zeroValue69 rfl rfl ?_)
  intro b6 w6 hzl6 hzr6 _ hb6 hE6
  refine ⟨(below_ext_of hE6 hszW), ?_⟩
  have hne_b1_b6 : b1 ≠ b6 := by have := hb1.lt; omega
  have hne_b5_b6 : b5 ≠ b6 := by have := hb5.lt; omega
  have hbs_b6 : w.heap.size ≤ b6 := Nat.le_trans hsz hzl6
  have hWp_b6 := hszW
  have hbW_b6 := Nat.le_trans hszW hzl6
  replace hB := below_ext hB hE6 hsz
  replace hb1 := hb1.ext hE6
  replace hszW := Nat.le_trans hszW hE6.size
  replace hb5 := hb5.ext hE6
  replace hsz := Nat.le_trans hsz hE6.size
  refine m_o3 rfl rfl (o_store (vs := [vint (((rl).getD n rcd0).h), vint (((rl).getD n rcd0).st), vstr (((rl).getD n rcd0).s)]) (cs' := [vint (((rl).getD n rcd0).h), vint (((rl).getD n rcd0).st), vstr (((rl).getD n rcd0).s)]) Tryz.sizeOf61 rfl rfl rfl rfl hb5 (Nat.le_of_ble_eq_true rfl) rfl rfl ?_)
  intro w7 hz7 hb5 hG7
  refine ⟨(below_upd_of hG7 hbW_b5 hszW), ?_⟩
  replace hB := below_upd hB hG7 hsz (by omega)
  replace hsz : w.heap.size ≤ w7.heap.size := by rw [hz7]; exact hsz
  replace hb1 := hb1.upd hG7 (by omega)
  replace hszW := Nat.le_trans hszW hG7.size
  replace hb6 := hb6.upd hG7 (by omega)
  refine m_o3 rfl rfl (o_store (vs := [vint (((sl).getD k sn00).h), vint (((sl).getD k sn00).st), .slice (((sl).getD k sn00).a) (((sl).getD k sn00).xs.length) (((sl).getD k sn00).c)]) (cs' := [vint (((sl).getD k sn00).h), vint (((sl).getD k sn00).st), .slice (((sl).getD k sn00).a) (((sl).getD k sn00).xs.length) (((sl).getD k sn00).c)]) Tryz.sizeOf69 rfl rfl rfl rfl hb6 (Nat.le_of_ble_eq_true rfl) rfl rfl ?_)
  intro w8 hz8 hb6 hG8
  refine ⟨(below_upd_of hG8 hbW_b6 hszW), ?_⟩
  replace hB := below_upd hB hG8 hsz (by omega)
  replace hsz : w.heap.size ≤ w8.heap.size := by rw [hz8]; exact hsz
  replace hb1 := hb1.upd hG8 (by omega)
  replace hszW := Nat.le_trans hszW hG8.size
  replace hb5 := hb5.upd hG8 (by omega)
  refine m_nil3 (r_forget [(1, .int _ _), (3, .pointer _), (7, .pointer _), (8, .pointer _)] ⟨rfl, rfl, rfl, rfl, trivial⟩ (fun e9 => (r_seq (r_region' (l_q (q_fieldAddr (o' := 0) rfl fld61_0 rfl) (l_q (q_load Tryz.isAgg3 rfl ((hb5.has (o := 0) rfl)) rfl) (l_q (q_fieldAddr (o' := 0) rfl fld69_0 rfl) (l_q (q_load Tryz.isAgg3 rfl ((hb6.has (o := 0) rfl)) rfl) (l_q (q_eql rfl rfl rfl) (l_q (qmb rfl rfl) (l_part 24 rfl (fun hc10 => ?_) (fun hc10 => ?_))))))))))))
  ·
   replace hc10 := dt hc10
   have g24 := hc10
   refine l_q (q_fieldAddr (o' := 1) rfl fld61_1 rfl) (l_q (q_load Tryz.isAgg3 rfl ((hb5.has (o := 1) rfl)) rfl) (l_q (q_fieldAddr (o' := 1) rfl fld69_1 rfl) (l_q (q_load Tryz.isAgg3 rfl ((hb6.has (o := 1) rfl)) rfl) (l_q (q_eql rfl rfl rfl) (l_q (q_pick_t (v := .bool _) rfl rfl rfl) (l_q (qmb rfl rfl) (l_part 31 rfl (fun hc11 => ?_) (fun hc11 => ?_))))))))
   ·
    replace hc11 := dt hc11
    have g31 := hc11
    refine l_q (q_load_agg (n := 5) Tryz.isAgg29 Tryz.sizeOf29 rfl ((hb1.cells' (cs' := [_, _, _, _, _]) 0 5 rfl)) rfl rfl) (l_q (q_fieldAddr (o' := 2) rfl fld69_2 rfl) (l_q (q_load Tryz.isAgg25 rfl ((hb6.has (o := 2) rfl)) rfl) (l_q (qmi rfl rfl) (l_o (o_call Tryz.call72 rfl (rreads6_ret ka kc co er sa sc se ja jc sl ra rc rl ((sl).getD k sn00).a ((sl).getD k sn00).c (((sl).getD k sn00).xs) n _ (hlg.below hB) hbg ((RowsS.get (hlg.rslr) (i := k) (by omega)).below hB) (by omega) hok hn hsx.2.2.1.2 hsx.2.2.2) rfl ?_)))))
    rintro _ w12 ⟨rfl, hE12⟩
    replace hB := below_ext hB hE12 hsz
    replace hb1 := hb1.ext hE12
    replace hsz := Nat.le_trans hsz hE12.size
    refine l_q (q_pick_t (v := .bool _) rfl rfl rfl) (l_q (qab rfl rfl) (l_nil (r_forget [(6, .bool _)] ⟨rfl, trivial⟩ (fun e13 => (r_ret_ (vs := [.bool _]) rfl Tryz.func67 rfl (.nil _) ⟨rfl, trivial⟩ ?_)))))
    exact ⟨vbool_eq (by unfold ownB SN.pn; rw [decide_eq_true g24.symm, decide_eq_true g31.symm]; rfl), Ext.of_below hB⟩
   ·
    replace hc11 := df hc11
    have g31 := hc11
    refine l_q (q_skip rfl) (l_q (q_skip rfl) (l_q (q_skip rfl) (l_q (q_skip rfl) (l_q (q_skip rfl) (l_q (q_pick_f (v := .bool _) rfl rfl rfl) (l_q (qab rfl rfl) (l_nil (r_forget [(6, .bool _)] ⟨rfl, trivial⟩ (fun e14 => (r_ret_ (vs := [.bool _]) rfl Tryz.func67 rfl (.nil _) ⟨rfl, trivial⟩ ?_))))))))))
    exact ⟨vbool_eq (own_no2 (fun h => g31 h.symm)).symm, Ext.of_below hB⟩
  ·
   replace hc10 := df hc10
   have g24 := hc10
   refine l_q (q_skip rfl) (l_q (q_skip rfl) (l_q (q_skip rfl) (l_q (q_skip rfl) (l_q (q_skip rfl) (l_q (q_pick_f (v := .bool _) rfl rfl rfl) (l_q (qmb rfl rfl) (l_q (q_skip rfl) (l_q (q_skip rfl) (l_q (q_skip rfl) (l_q (q_skip rfl) (l_q (q_skip rfl) (l_q (q_pick_f (v := .bool _) rfl rfl rfl) (l_q (qab rfl rfl) (l_nil (r_forget [(6, .bool _)] ⟨rfl, trivial⟩ (fun e15 => (r_ret_ (vs := [.bool _]) rfl Tryz.func67 rfl (.nil _) ⟨rfl, trivial⟩ ?_)))))))))))))))))
   exact ⟨vbool_eq (own_no1 (fun h => g24 h.symm)).symm, Ext.of_below hB⟩
 ·
  refine m_o3 rfl rfl (o_alloc Tryz.zeroValue69 rfl rfl ?_)
  intro b16 w16 hzl16 hzr16 _ hb16 hE16
  refine ⟨(below_ext_of hE16 hszW), ?_⟩
  have hne_b1_b16 : b1 ≠ b16 := by have := hb1.lt; omega
  have hbs_b16 : w.heap.size ≤ b16 := Nat.le_trans hsz hzl16
  have hWp_b16 := hszW
  have hbW_b16 := Nat.le_trans hszW hzl16
  replace hB := below_ext hB hE16 hsz
  replace hb1 := hb1.ext hE16
  replace hszW := Nat.le_trans hszW hE16.size
  replace hsz := Nat.le_trans hsz hE16.size
  refine m_o3 rfl rfl (o_alloc Tryz.zeroValue61 rfl rfl ?_)
  intro b17 w17 hzl17 hzr17 _ hb17 hE17
  refine ⟨(below_ext_of hE17 hszW), ?_⟩
  have hne_b1_b17 : b1 ≠ b17 := by have := hb1.lt; omega
  have hne_b16_b17 : b16 ≠ b17 := by have := hb16.lt; omega
  have hbs_b17 : w.heap.size ≤ b17 := Nat.le_trans hsz hzl17
  have hWp_b17 := hszW
  have hbW_b17 := Nat.le_trans hszW hzl17
  replace hB := below_ext hB hE17 hsz
  replace hb1 := hb1.ext hE17
  replace hszW := Nat.le_trans hszW hE17.size
  replace hb16 := hb16.ext hE17
  replace hsz := Nat.le_trans hsz hE17.size
  refine m_o3 rfl rfl (o_store (vs := [vint (((rl).getD n rcd0).h), vint (((rl).getD n rcd0).st), vstr (((rl).getD n rcd0).s)]) (cs' := [vint (((rl).getD n rcd0).h), vint (((rl).getD n rcd0).st), vstr (((rl).getD n rcd0).s)]) Tryz.sizeOf61 rfl rfl rfl rfl hb17 (Nat.le_of_ble_eq_true rfl) rfl rfl ?_)
  intro w18 hz18 hb17 hG18
  refine ⟨(below_upd_of hG18 hbW_b17 hszW), ?_⟩
  replace hB := below_upd hB hG18 hsz (by omega)
  replace hsz : w.heap.size ≤ w18.heap.size := by rw [hz18]; exact hsz
  replace hb1 := hb1.upd hG18 (by omega)
  replace hszW := Nat.le_trans hszW hG18.size
  replace hb16 := hb16.upd hG18 (by omega)
  refine m_o3 rfl rfl (o_store (vs := [vint (((sl).getD k sn00).h), vint (((sl).getD k sn00).st), .slice (((sl).getD k sn00).a) (((sl).getD k sn00).xs.length) (((sl).getD k sn00).c)]) (cs' := [vint (((sl).getD k sn00).h), vint (((sl).getD k sn00).st), .slice (((sl).getD k sn00).a) (((sl).getD k sn00).xs.length) (((sl).getD k sn00).c)]) Tryz.sizeOf69 rfl rfl rfl rfl hb16 (Nat.le_of_ble_eq_true rfl) rfl rfl ?_)
  intro w19 hz19 hb16 hG19
  refine ⟨(below_upd_of hG19 hbW_b16 hszW), ?_⟩
  replace hB := below_upd hB hG19 hsz (by omega)
  replace hsz : w.heap.size ≤ w19.heap.size := by rw [hz19]; exact hsz
  replace hb1 := hb1.upd hG19 (by omega)
  replace hszW := Nat.le_trans hszW hG19.size
  replace hb17 := hb17.upd hG19 (by omega)
  refine m_nil3 (r_forget [(1, .int _ _), (3, .pointer _), (7, .pointer _), (8, .pointer _)] ⟨rfl, rfl, rfl, rfl, trivial⟩ (fun e20 => (r_seq (r_region' (l_q (q_fieldAddr (o' := 0) rfl fld61_0 rfl) (l_q (q_load Tryz.isAgg3 rfl ((hb17.has (o := 0) rfl)) rfl) (l_q (q_fieldAddr (o' := 0) rfl fld69_0 rfl) (l_q (q_load Tryz.isAgg3 rfl ((hb16.has (o := 0) rfl)) rfl) (l_q (q_eql rfl rfl rfl) (l_q (qmb rfl rfl) (l_part 24 rfl (fun hc21 => ?_) (fun hc21 => ?_))))))))))))
  ·
   replace hc21 := dt hc21
   have g24 := hc21
   refine l_q (q_fieldAddr (o' := 1) rfl fld61_1 rfl) (l_q (q_load Tryz.isAgg3 rfl ((hb17.has (o := 1) rfl)) rfl) (l_q (q_fieldAddr (o' := 1) rfl fld69_1 rfl) (l_q (q_load Tryz.isAgg3 rfl ((hb16.has (o := 1) rfl)) rfl) (l_q (q_eql rfl rfl rfl) (l_q (q_pick_t (v := .bool _) rfl rfl rfl) (l_q (qmb rfl rfl) (l_part 31 rfl (fun hc22 => ?_) (fun hc22 => ?_))))))))
   ·
    replace hc22 := dt hc22
    have g31 := hc22
    refine l_q (q_load_agg (n := 5) Tryz.isAgg29 Tryz.sizeOf29 rfl ((hb1.cells' (cs' := [_, _, _, _, _]) 0 5 rfl)) rfl rfl) (l_q (q_fieldAddr (o' := 2) rfl fld69_2 rfl) (l_q (q_load Tryz.isAgg25 rfl ((hb16.has (o := 2) rfl)) rfl) (l_q (qmi rfl rfl) (l_o (o_call Tryz.call72 rfl (rreads6_ret ka kc co er sa sc se ja jc sl ra rc rl ((sl).getD k sn00).a ((sl).getD k sn00).c (((sl).getD k sn00).xs) n _ (hlg.below hB) hbg ((RowsS.get (hlg.rslr) (i := k) (by omega)).below hB) (by omega) hok hn hsx.2.2.1.2 hsx.2.2.2) rfl ?_)))))
    rintro _ w23 ⟨rfl, hE23⟩
    replace hB := below_ext hB hE23 hsz
    replace hsz := Nat.le_trans hsz hE23.size
    refine l_q (q_pick_t (v := .bool _) rfl rfl rfl) (l_q (qab rfl rfl) (l_nil (r_forget [(6, .bool _)] ⟨rfl, trivial⟩ (fun e24 => (r_ret_ (vs := [.bool _]) rfl Tryz.func67 rfl (.nil _) ⟨rfl, trivial⟩ ?_)))))
    exact ⟨vbool_eq (by unfold ownB SN.pn; rw [decide_eq_true g24.symm, decide_eq_true g31.symm]; rfl), Ext.of_below hB⟩
   ·
    replace hc22 := df hc22
    have g31 := hc22
    refine l_q (q_skip rfl) (l_q (q_skip rfl) (l_q (q_skip rfl) (l_q (q_skip rfl) (l_q (q_skip rfl) (l_q (q_pick_f (v := .bool _) rfl rfl rfl) (l_q (qab rfl rfl) (l_nil (r_forget [(6, .bool _)] ⟨rfl, trivial⟩ (fun e25 => (r_ret_ (vs := [.bool _]) rfl Tryz.func67 rfl (.nil _) ⟨rfl, trivial⟩ ?_))))))))))
    exact ⟨vbool_eq (own_no2 (fun h => g31 h.symm)).symm, Ext.of_below hB⟩
  ·
   replace hc21 := df hc21
   have g24 := hc21
   refine l_q (q_skip rfl) (l_q (q_skip rfl) (l_q (q_skip rfl) (l_q (q_skip rfl) (l_q (q_skip rfl) (l_q (q_pick_f (v := .bool _) rfl rfl rfl) (l_q (qmb rfl rfl) (l_q (q_skip rfl) (l_q (q_skip rfl) (l_q (q_skip rfl) (l_q (q_skip rfl) (l_q (q_skip rfl) (l_q (q_pick_f (v := .bool _) rfl rfl rfl) (l_q (qab rfl rfl) (l_nil (r_forget [(6, .bool _)] ⟨rfl, trivial⟩ (fun e26 => (r_ret_ (vs := [.bool _]) rfl Tryz.func67 rfl (.nil _) ⟨rfl, trivial⟩ ?_)))))))))))))))))
   exact ⟨vbool_eq (own_no1 (fun h => g24 h.symm)).symm, Ext.of_below hB⟩
end Go.Proofs.YtekkdhpgcilpdaaGreat
