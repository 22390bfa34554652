/- Contracts. -/
import Derived.Test.YtekkdhpgcilpdaaGreatM12
import Derived.Test.YtekkdhpgcilpdaaGreatF21
set_option linter.unusedVariables false
set_option linter.unusedSimpArgs false
namespace Go.Proofs.YtekkdhpgcilpdaaGreat
open Go Go.RowKit Go.Gv Go.Fl
theorem reads6_eq {co : List Sg} {er : Int} {se : List Int} {sl : List SN} {rl : List RC} {xs : List Int} {s : Sg} (her : er ≤ 3) : (decide (fe 1000 (signs co xs) s < 1000) && decide (fe 1000 (signs co xs) s ≤ er)) = readsB (lg co er se sl rl) xs s := by
  unfold readsB lg
  rw [fe_min]
  dsimp only
  rw [← Bool.decide_and, decide_eq_decide]
  omega
theorem rreads6_ret (ka : Option Addr) (kc : Nat) (co : List Sg) (er : Int) (sa : Option Addr) (sc : Nat) (se : List Int) (ja : Option Addr) (jc : Nat) (sl : List SN) (ra : Option Addr) (rc : Nat) (rl : List RC) (xa : Option Addr) (xc : Nat) (xs : List Int) (n : Nat) (w : World) (hlg : LgAt w ka kc co sa sc se ja jc sl ra rc rl) (hbg : LgBig co er se sl rl) (hx : Row w xa xs.length xc 1 (xs.map vint)) (hxn : xs.length ≤ 2097152) (hok : faultM (lg co er se sl rl) = 0) (hn : n < rl.length) (hx5 : xs.length ≤ 5) (htx : isText co xs = true) : Ret Tryz.prog 72 [.agg ⟨[.slice ka co.length kc, vint er, .slice sa se.length sc, .slice ja sl.length jc, .slice ra rl.length rc]⟩, .slice xa xs.length xc, vint (n : Int)] w (fun v w' => v = .bool (readsB (lg co er se sl rl) xs (rl.getD n rcd0).s) ∧ Ext w w') := by
 obtain ⟨⟨hcn, hcl⟩, hen, hsn, ⟨hjn, hjl⟩, hrn, hrl⟩ := id hbg
 obtain ⟨⟨hs1, hs4⟩, hj8, hr6, hf0, ⟨he0, he3⟩, hsr, hJn, hRn⟩ := lg_ok hok
 obtain ⟨⟨hrh0, hrh⟩, ⟨hrs0, hrs⟩, hrsf⟩ := hRn _ (getD_lt (d := rcd0) hn)
 have hr40 := sf_len hrsf
 have hrf := hrl _ (getD_lt (d := rcd0) hn)
 have hsl := send_len hf0 hx5 htx
 have hB := Below.refl w.heap.size w
 have hsz : w.heap.size ≤ w.heap.size := Nat.le_refl _
 refine ret_of_runs (args := [_, _, _]) Tryz.func72 rfl (Nat.le_of_ble_eq_true rfl) (by kernel_rfl) (r_seq (r_region' (l_o (o_box rfl rfl rfl ?_))))
 intro b1 w1 hzl1 hzr1 _ hb1 hE1
 have hbs_b1 : w.heap.size ≤ b1 := Nat.le_trans hsz hzl1
 replace hB := below_ext hB hE1 hsz
 replace hsz := Nat.le_trans hsz hE1.size
 refine l_q (qab rfl rfl) (l_nil (r_seq (r_draw ext_refl' ext_trans' [0, 1, 2, 4, 5, 6, 7, 8, 9, 3, 10, 11, 12, 13, 14, 15] [3, 10] 6 (by kernel_rfl) (by kernel_rfl) ?_)))
 intro w2 _ hE2
 replace hB := below_ext hB hE2 hsz
 replace hb1 := hb1.ext hE2
 replace hsz := Nat.le_trans hsz hE2.size
 refine m_q rfl rfl (fun w' hC' => q_fieldAddr (o' := 0) rfl fld29_0 rfl) (m_q rfl rfl (fun w' hC' => q_load_agg (n := 1) Tryz.isAgg24 Tryz.sizeOf24 rfl (((hb1.cells' (cs' := [_]) 0 1 rfl).ext hC')) rfl rfl) (m_q rfl rfl (fun w' hC' => qms rfl rfl) (m_q rfl rfl (fun w' hC' => q_fieldAddr (o' := 4) rfl fld29_4 rfl) (m_q rfl rfl (fun w' hC' => q_load Tryz.isAgg27 rfl (((hb1.has (o := 4) rfl).ext hC')) rfl) (m_q rfl rfl (fun w' hC' => qmi rfl rfl) ?_)))))
 obtain ⟨b3, o3, ha3, hh3⟩ := (hlg.rrl.below hB).at (by decide) n (by omega)
 refine m_q rfl rfl (fun w' hC' => q_indexAddr Tryz.underlying27 Tryz.sizeOf61 rfl ha3 rfl (by omega) rfl) (m_q rfl rfl (fun w' hC' => q_fieldAddr (o' := 2) rfl fld61_2 rfl) (m_q rfl rfl (fun w' hC' => q_load Tryz.isAgg9 rfl ((((cells_cast (wide_at RC.len rcd0 _ _ (by omega)) hh3) 2 _ rfl).ext hC')) rfl) (m_o rfl rfl (o_call Tryz.call81 rfl (refSigns_ret _ _ co _ _ xs _ (hlg.rco.below hB) (by omega) (hx.below hB) (by omega) hf0 htx) rfl ?_))))
 rintro _ w4 ⟨rfl, hE4⟩
 refine ⟨hE4, ?_⟩
 replace hB := below_ext hB hE4 hsz
 replace hb1 := hb1.ext hE4
 replace hsz := Nat.le_trans hsz hE4.size
 refine m_o rfl rfl (o_call Tryz.call105 rfl (rerrors_ret (signs co xs) (rl.getD n rcd0).s _ hsl hr40) rfl ?_)
 rintro _ w5 ⟨rfl, hE5⟩
 refine ⟨hE5, ?_⟩
 replace hB := below_ext hB hE5 hsz
 replace hb1 := hb1.ext hE5
 replace hsz := Nat.le_trans hsz hE5.size
 refine m_q rfl rfl (fun w' hC' => q_move (v := .tuple _) rfl rfl) (m_q rfl rfl (fun w' hC' => q_extract (vs := [_, _]) (v := .int _ _) rfl rfl rfl) (m_q rfl rfl (fun w' hC' => q_extract (vs := [_, _]) (v := .bool _) rfl rfl rfl) (m_q rfl rfl (fun w' hC' => qai rfl rfl) (m_q rfl rfl (fun w' hC' => qab rfl rfl) (m_nil (r_forget [(3, .pointer _), (7, .int _ _), (8, .bool _)] ⟨rfl, rfl, rfl, trivial⟩ (fun e6 => (r_seq (r_region' (l_q (qmb rfl rfl) (l_q (qmb rfl rfl) (l_part 24 rfl (fun hc7 => ?_) (fun hc7 => ?_)))))))))))))
 ·
  replace hc7 := dt hc7
  have g24 := hc7
  refine l_q (qmi rfl rfl) (l_q (q_fieldAddr (o' := 1) rfl fld29_1 rfl) (l_q (q_load Tryz.isAgg3 rfl ((hb1.has (o := 1) rfl)) rfl) (l_q (q_leq rfl rfl rfl) (l_q (q_pick_t (v := .bool _) rfl rfl rfl) (l_q (qab rfl rfl) (l_nil (r_forget [(6, .bool _)] ⟨rfl, trivial⟩ (fun e8 => (r_ret_ (vs := [.bool _]) rfl Tryz.func72 rfl (.nil _) ⟨rfl, trivial⟩ ?_)))))))))
  exact ⟨vbool_eq (by rw [← reads6_eq (co := co) (er := er) (se := se) (sl := sl) (rl := rl) he3]; first | (rw [decide_eq_true g24]; rfl) | (rw [decide_eq_false (by omega)]; rfl) | (rw [g24]; rfl)), Ext.of_below hB⟩
 ·
  replace hc7 := dlt hc7
  have g24 := hc7
  refine l_q (q_skip rfl) (l_q (q_skip rfl) (l_q (q_skip rfl) (l_q (q_skip rfl) (l_q (q_pick_f (v := .bool _) rfl rfl rfl) (l_q (qab rfl rfl) (l_nil (r_forget [(6, .bool _)] ⟨rfl, trivial⟩ (fun e9 => (r_ret_ (vs := [.bool _]) rfl Tryz.func72 rfl (.nil _) ⟨rfl, trivial⟩ ?_)))))))))
  exact ⟨vbool_eq (by rw [← reads6_eq (co := co) (er := er) (se := se) (sl := sl) (rl := rl) he3]; first | (rw [decide_eq_true g24]; rfl) | (rw [decide_eq_false (by omega)]; rfl) | (rw [g24]; rfl)), Ext.of_below hB⟩
end Go.Proofs.YtekkdhpgcilpdaaGreat
