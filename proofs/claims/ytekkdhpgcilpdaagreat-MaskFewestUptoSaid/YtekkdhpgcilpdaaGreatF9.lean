/- Contracts. -/
import Derived.Test.YtekkdhpgcilpdaaGreatF8
set_option linter.unusedVariables false
set_option linter.unusedSimpArgs false
namespace Go.Proofs.YtekkdhpgcilpdaaGreat
open Go Go.RowKit Go.Gv Go.Fl

theorem pfx_short {s p : Sg} (h : (s.length : Int) < p.length) : hasPfx s p = false := by
  unfold hasPfx
  rw [decide_eq_false_iff_not]
  intro he; have := congrArg List.length he
  rw [List.length_take] at this; omega
theorem pfx_no {s p : Sg} {n : Nat} (h : ¬ s.take n = p) (hn : n = p.length := by rfl) : hasPfx s p = false := by unfold hasPfx; rw [← hn]; exact decide_eq_false h
theorem pfx_yes {s p : Sg} {n : Nat} (h : s.take n = p) (hn : n = p.length := by rfl) : hasPfx s p = true := by unfold hasPfx; rw [← hn]; exact decide_eq_true h
theorem stepR_none {k : Int} {s r : Sg} (h : stepTW k s = none) : stepR k s r = ([], [], false) := by unfold stepR; rw [h]
theorem stepR_no {k : Int} {s r : Sg} {t : Nat} {wr : Sg} (h : stepTW k s = some (t, wr)) (hp : hasPfx r wr = false) : stepR k s r = ([], [], false) := by unfold stepR; rw [h]; simp [hp]
theorem stepR_yes {k : Int} {s r : Sg} {t : Nat} {wr : Sg} (h : stepTW k s = some (t, wr)) (hp : hasPfx r wr = true) : stepR k s r = (s.drop t, r.drop wr.length, true) := by unfold stepR; rw [h]; simp [hp]
def doS (s r : Sg) (n : Int) : List Int → Int × Bool
  | [] => (n, decide (s = []) && decide (r = []))
  | k :: ks => if (stepR k s r).2.2 = true then doS (stepR k s r).1 (stepR k s r).2.1 (n + cost k) ks else (0, false)
theorem cost_le (k : Int) : 0 ≤ cost k ∧ cost k ≤ 1 := by unfold cost; split <;> omega
theorem step_ret (kind : Int) (sent read : Sg) (w : World) (hs : sent.length ≤ 2097152) (hr : read.length ≤ 2097152) : Ret Tryz.prog 111 [vint kind, vstr sent, vstr read] w (fun v w' => v = .tuple ⟨[vstr ((stepR kind sent read).1), vstr ((stepR kind sent read).2.1), .bool ((stepR kind sent read).2.2)]⟩ ∧ Ext w w') := by
 have hB := Below.refl w.heap.size w
 have hsz : w.heap.size ≤ w.heap.size := Nat.le_refl _
 refine ret_of_runs (args := [_, _, _]) Tryz.func111 rfl (Nat.le_of_ble_eq_true rfl) (by kernel_rfl) (r_seq (r_region' (l_q (q_assign (v := .string _) rfl rfl) (l_q (q_assign (v := .string _) rfl rfl) (l_q (qab rfl rfl) (l_nil (r_seq (r_region' (l_q (qai rfl rfl) (l_q (q_assign (v := .string _) rfl rfl) (l_nil (r_seq (r_seq (r_region' (l_q (qmi rfl rfl) (l_nil (r_block (r_seq (r_region' (l_q (q_eql rfl rfl rfl) (l_q (qab rfl rfl) (l_nil (r_cond rfl (fun hc1 => ?_) (fun hc1 => ?_))))))))))))))))))))))))
 ·
  replace hc1 := dt hc1
  refine r_seq (r_seq (r_region' (l_q (q_move (v := .string _) rfl rfl) (l_q (q_eql_str rfl rfl rfl) (l_nil (r_cond rfl (fun hc2 => ?_) (fun hc2 => ?_)))))))
  ·
   replace hc2 := dt hc2
   refine r_seq (r_region' (l_q (q_assign (v := .string _) rfl rfl) (l_q (q_assign (v := .string _) rfl rfl) (l_q (qab rfl rfl) (l_nil (r_forget [(6, .string _), (7, .string _), (8, .bool _)] ⟨rfl, rfl, rfl, trivial⟩ (fun e3 => (r_ret_ (vs := [.string _, .string _, .bool _]) rfl Tryz.func111 rfl (.nil _) ⟨rfl, rfl, rfl, trivial⟩ ?_))))))))
   have htw : stepTW kind sent = none := by unfold stepTW; simp_all <;> (first | omega | (intro h; omega))
   exact ⟨tup3 (vstr_eq (congrArg (fun p => p.1) (stepR_none htw)).symm) (vstr_eq (congrArg (fun p => p.2.1) (stepR_none htw)).symm) (vbool_eq (congrArg (fun p => p.2.2) (stepR_none htw)).symm), Ext.of_below hB⟩
  ·
   replace hc2 := df hc2
   have hsl : 1 ≤ sent.length := List.length_pos_iff.2 hc2
   refine r_skip (r_region' (l_q (q_move (v := .string _) rfl rfl) (l_q (q_slice_str_hi Tryz.underlying9 rfl rfl (by omega) rfl) (l_q (q_assign (v := .string _) rfl rfl) (l_nil (r_forget [(1, .string _), (2, .string _), (9, .int _ _), (10, .string _)] ⟨rfl, rfl, rfl, rfl, trivial⟩ (fun e4 => (r_inBlock (r_seq (r_seq ?_))))))))))
   have htw : stepTW kind sent = some (1, (sent).take 1) := by unfold stepTW; simp_all <;> omega
   refine r_region' (l_q (q_move (v := .string _) rfl rfl) (l_q (q_len_str rfl Tryz.underlying9 rfl rfl) (l_q (q_move (v := .string _) rfl rfl) (l_q (q_len_str rfl Tryz.underlying9 rfl rfl) (l_q (q_lss rfl rfl rfl) (l_q (qmb rfl rfl) (l_part 62 rfl (fun hc5 => ?_) (fun hc5 => ?_))))))))
   ·
    replace hc5 := dt hc5
    have hpf := pfx_short hc5
    refine l_q (q_skip rfl) (l_q (q_skip rfl) (l_q (q_skip rfl) (l_q (q_skip rfl) (l_q (q_skip rfl) (l_q (q_skip rfl) (l_q (q_pick_t (v := .bool _) rfl rfl rfl) (l_nil (r_forget [(1, .string _), (2, .string _), (9, .int _ _), (10, .string _), (69, .bool _)] ⟨rfl, rfl, rfl, rfl, rfl, trivial⟩ (fun e6 => (r_cond_t rfl (r_seq (r_region' (l_q (q_assign (v := .string _) rfl rfl) (l_q (q_assign (v := .string _) rfl rfl) (l_q (qab rfl rfl) (l_nil (r_ret_ (vs := [.string _, .string _, .bool _]) rfl Tryz.func111 rfl (.nil _) ⟨rfl, rfl, rfl, trivial⟩ ?_)))))))))))))))))
    exact ⟨tup3 (vstr_eq (congrArg (fun p => p.1) (stepR_no htw hpf)).symm) (vstr_eq (congrArg (fun p => p.2.1) (stepR_no htw hpf)).symm) (vbool_eq (congrArg (fun p => p.2.2) (stepR_no htw hpf)).symm), Ext.of_below hB⟩
   ·
    replace hc5 := dlt hc5
    refine l_q (q_move (v := .string _) rfl rfl) (l_q (q_move (v := .string _) rfl rfl) (l_q (q_len_str rfl Tryz.underlying9 rfl rfl) (l_q (q_slice_str_hi Tryz.underlying9 rfl rfl (by omega) rfl) (l_q (q_move (v := .string _) rfl rfl) (l_q (q_neq_str rfl rfl rfl) (l_q (q_pick_f (v := .bool _) rfl rfl rfl) (l_nil (r_forget [(1, .string _), (2, .string _), (9, .int _ _), (10, .string _), (69, .bool _)] ⟨rfl, rfl, rfl, rfl, rfl, trivial⟩ (fun e7 => (r_cond rfl (fun hc8 => ?_) (fun hc8 => ?_)))))))))))
    ·
     replace hc8 := df (nt hc8)
     have hpf := pfx_no hc8
     refine r_seq (r_region' (l_q (q_assign (v := .string _) rfl rfl) (l_q (q_assign (v := .string _) rfl rfl) (l_q (qab rfl rfl) (l_nil (r_ret_ (vs := [.string _, .string _, .bool _]) rfl Tryz.func111 rfl (.nil _) ⟨rfl, rfl, rfl, trivial⟩ ?_))))))
     exact ⟨tup3 (vstr_eq (congrArg (fun p => p.1) (stepR_no htw hpf)).symm) (vstr_eq (congrArg (fun p => p.2.1) (stepR_no htw hpf)).symm) (vbool_eq (congrArg (fun p => p.2.2) (stepR_no htw hpf)).symm), Ext.of_below hB⟩
    ·
     replace hc8 := dt (nf hc8)
     have hpf := pfx_yes hc8
     refine r_skip (r_seq (r_draw ext_refl' ext_trans' [0, 1, 2, 3, 4, 5, 6, 7, 8, 9] [] 2 (by kernel_rfl) (by kernel_rfl) ?_))
     intro w9 _ hE9
     replace hB := below_ext hB hE9 hsz
     replace hsz := Nat.le_trans hsz hE9.size
     refine m_q rfl rfl (fun w' hC' => q_move (v := .string _) rfl rfl) (m_q rfl rfl (fun w' hC' => qmi rfl rfl) (m_q rfl rfl (fun w' hC' => q_slice_str_lo Tryz.underlying9 rfl rfl (by omega) rfl) (m_q rfl rfl (fun w' hC' => q_move (v := .string _) rfl rfl) (m_q rfl rfl (fun w' hC' => q_move (v := .string _) rfl rfl) (m_q rfl rfl (fun w' hC' => q_len_str rfl Tryz.underlying9 rfl rfl) (m_q rfl rfl (fun w' hC' => q_slice_str_lo Tryz.underlying9 rfl rfl (by omega) rfl) (m_q rfl rfl (fun w' hC' => q_assign (v := .string _) rfl rfl) (m_q rfl rfl (fun w' hC' => q_assign (v := .string _) rfl rfl) (m_q rfl rfl (fun w' hC' => qab rfl rfl) (m_nil (r_forget [(6, .string _), (7, .string _), (8, .bool _)] ⟨rfl, rfl, rfl, trivial⟩ (fun e10 => (r_ret_ (vs := [.string _, .string _, .bool _]) rfl Tryz.func111 rfl (.nil _) ⟨rfl, rfl, rfl, trivial⟩ ?_)))))))))))))
     exact ⟨tup3 (vstr_eq (congrArg (fun p => p.1) (stepR_yes htw hpf)).symm) (vstr_eq (congrArg (fun p => p.2.1) (stepR_yes htw hpf)).symm) (vbool_eq (congrArg (fun p => p.2.2) (stepR_yes htw hpf)).symm), Ext.of_below hB⟩
 ·
  replace hc1 := df hc1
  refine r_seq (r_region' (l_q (q_eql rfl rfl rfl) (l_q (qab rfl rfl) (l_nil (r_cond rfl (fun hc11 => ?_) (fun hc11 => ?_))))))
  ·
   replace hc11 := dt hc11
   refine r_seq (r_region' (l_q (q_move (v := .string _) rfl rfl) (l_q (q_eql_str rfl rfl rfl) (l_q (qmb rfl rfl) (l_part 22 rfl (fun hc12 => ?_) (fun hc12 => ?_))))))
   ·
    replace hc12 := dt hc12
    refine l_q (q_skip rfl) (l_q (q_skip rfl) (l_q (q_skip rfl) (l_q (q_pick_t (v := .bool _) rfl rfl rfl) (l_nil (r_forget [(1, .string _), (2, .string _), (9, .int _ _), (10, .string _), (26, .bool _)] ⟨rfl, rfl, rfl, rfl, rfl, trivial⟩ (fun e13 => (r_cond_t rfl (r_seq (r_region' (l_q (q_assign (v := .string _) rfl rfl) (l_q (q_assign (v := .string _) rfl rfl) (l_q (qab rfl rfl) (l_nil (r_ret_ (vs := [.string _, .string _, .bool _]) rfl Tryz.func111 rfl (.nil _) ⟨rfl, rfl, rfl, trivial⟩ ?_))))))))))))))
    have htw : stepTW kind sent = none := by unfold stepTW; simp_all <;> (first | omega | (intro h; omega))
    exact ⟨tup3 (vstr_eq (congrArg (fun p => p.1) (stepR_none htw)).symm) (vstr_eq (congrArg (fun p => p.2.1) (stepR_none htw)).symm) (vbool_eq (congrArg (fun p => p.2.2) (stepR_none htw)).symm), Ext.of_below hB⟩
   ·
    replace hc12 := df hc12
    have hsl : 1 ≤ sent.length := List.length_pos_iff.2 hc12
    refine l_q (q_move (v := .string _) rfl rfl) (l_q (q_index_str (c := (sent).getD 0 0) Tryz.underlying9 rfl rfl (by omega) (getD_some (by omega)) rfl) (l_q (q_eql rfl rfl rfl) (l_q (q_pick_f (v := .bool _) rfl rfl rfl) (l_nil (r_forget [(1, .string _), (2, .string _), (9, .int _ _), (10, .string _), (26, .bool _)] ⟨rfl, rfl, rfl, rfl, rfl, trivial⟩ (fun e14 => (r_cond rfl (fun hc15 => ?_) (fun hc15 => ?_))))))))
    ·
     replace hc15 := dt hc15
     have hb := u8_eq (n := 32) hc15
     refine r_seq (r_region' (l_q (q_assign (v := .string _) rfl rfl) (l_q (q_assign (v := .string _) rfl rfl) (l_q (qab rfl rfl) (l_nil (r_ret_ (vs := [.string _, .string _, .bool _]) rfl Tryz.func111 rfl (.nil _) ⟨rfl, rfl, rfl, trivial⟩ ?_))))))
     have htw : stepTW kind sent = none := by unfold stepTW; simp_all <;> (first | omega | (intro h; omega))
     exact ⟨tup3 (vstr_eq (congrArg (fun p => p.1) (stepR_none htw)).symm) (vstr_eq (congrArg (fun p => p.2.1) (stepR_none htw)).symm) (vbool_eq (congrArg (fun p => p.2.2) (stepR_none htw)).symm), Ext.of_below hB⟩
    ·
     replace hc15 := df hc15
     have hb := u8_ne (n := 32) hc15
     refine r_skip (r_inBlock (r_seq (r_seq ?_)))
     have htw : stepTW kind sent = some (1, []) := by unfold stepTW; simp_all <;> omega
     refine r_region' (l_q (q_move (v := .string _) rfl rfl) (l_q (q_len_str rfl Tryz.underlying9 rfl rfl) (l_q (q_move (v := .string _) rfl rfl) (l_q (q_len_str rfl Tryz.underlying9 rfl rfl) (l_q (q_lss rfl rfl rfl) (l_q (qmb rfl rfl) (l_part 62 rfl (fun hc16 => ?_) (fun hc16 => ?_))))))))
     ·
      replace hc16 := dt hc16
      have hpf := pfx_short hc16
      refine l_q (q_skip rfl) (l_q (q_skip rfl) (l_q (q_skip rfl) (l_q (q_skip rfl) (l_q (q_skip rfl) (l_q (q_skip rfl) (l_q (q_pick_t (v := .bool _) rfl rfl rfl) (l_nil (r_forget [(1, .string _), (2, .string _), (9, .int _ _), (10, .string _), (69, .bool _)] ⟨rfl, rfl, rfl, rfl, rfl, trivial⟩ (fun e17 => (r_cond_t rfl (r_seq (r_region' (l_q (q_assign (v := .string _) rfl rfl) (l_q (q_assign (v := .string _) rfl rfl) (l_q (qab rfl rfl) (l_nil (r_ret_ (vs := [.string _, .string _, .bool _]) rfl Tryz.func111 rfl (.nil _) ⟨rfl, rfl, rfl, trivial⟩ ?_)))))))))))))))))
      exact ⟨tup3 (vstr_eq (congrArg (fun p => p.1) (stepR_no htw hpf)).symm) (vstr_eq (congrArg (fun p => p.2.1) (stepR_no htw hpf)).symm) (vbool_eq (congrArg (fun p => p.2.2) (stepR_no htw hpf)).symm), Ext.of_below hB⟩
     ·
      replace hc16 := dlt hc16
      refine l_q (q_move (v := .string _) rfl rfl) (l_q (q_move (v := .string _) rfl rfl) (l_q (q_len_str rfl Tryz.underlying9 rfl rfl) (l_q (q_slice_str_hi Tryz.underlying9 rfl rfl (by omega) rfl) (l_q (q_move (v := .string _) rfl rfl) (l_q (q_neq_str rfl rfl rfl) (l_q (q_pick_f (v := .bool _) rfl rfl rfl) (l_nil (r_forget [(1, .string _), (2, .string _), (9, .int _ _), (10, .string _), (69, .bool _)] ⟨rfl, rfl, rfl, rfl, rfl, trivial⟩ (fun e18 => (r_cond rfl (fun hc19 => ?_) (fun hc19 => ?_)))))))))))
      ·
       replace hc19 := df (nt hc19)
       have hpf := pfx_no hc19
       refine r_seq (r_region' (l_q (q_assign (v := .string _) rfl rfl) (l_q (q_assign (v := .string _) rfl rfl) (l_q (qab rfl rfl) (l_nil (r_ret_ (vs := [.string _, .string _, .bool _]) rfl Tryz.func111 rfl (.nil _) ⟨rfl, rfl, rfl, trivial⟩ ?_))))))
       exact ⟨tup3 (vstr_eq (congrArg (fun p => p.1) (stepR_no htw hpf)).symm) (vstr_eq (congrArg (fun p => p.2.1) (stepR_no htw hpf)).symm) (vbool_eq (congrArg (fun p => p.2.2) (stepR_no htw hpf)).symm), Ext.of_below hB⟩
      ·
       replace hc19 := dt (nf hc19)
       have hpf := pfx_yes hc19
       refine r_skip (r_seq (r_draw ext_refl' ext_trans' [0, 1, 2, 3, 4, 5, 6, 7, 8, 9] [] 2 (by kernel_rfl) (by kernel_rfl) ?_))
       intro w20 _ hE20
       replace hB := below_ext hB hE20 hsz
       replace hsz := Nat.le_trans hsz hE20.size
       refine m_q rfl rfl (fun w' hC' => q_move (v := .string _) rfl rfl) (m_q rfl rfl (fun w' hC' => qmi rfl rfl) (m_q rfl rfl (fun w' hC' => q_slice_str_lo Tryz.underlying9 rfl rfl (by omega) rfl) (m_q rfl rfl (fun w' hC' => q_move (v := .string _) rfl rfl) (m_q rfl rfl (fun w' hC' => q_move (v := .string _) rfl rfl) (m_q rfl rfl (fun w' hC' => q_len_str rfl Tryz.underlying9 rfl rfl) (m_q rfl rfl (fun w' hC' => q_slice_str_lo Tryz.underlying9 rfl rfl (by omega) rfl) (m_q rfl rfl (fun w' hC' => q_assign (v := .string _) rfl rfl) (m_q rfl rfl (fun w' hC' => q_assign (v := .string _) rfl rfl) (m_q rfl rfl (fun w' hC' => qab rfl rfl) (m_nil (r_forget [(6, .string _), (7, .string _), (8, .bool _)] ⟨rfl, rfl, rfl, trivial⟩ (fun e21 => (r_ret_ (vs := [.string _, .string _, .bool _]) rfl Tryz.func111 rfl (.nil _) ⟨rfl, rfl, rfl, trivial⟩ ?_)))))))))))))
       exact ⟨tup3 (vstr_eq (congrArg (fun p => p.1) (stepR_yes htw hpf)).symm) (vstr_eq (congrArg (fun p => p.2.1) (stepR_yes htw hpf)).symm) (vbool_eq (congrArg (fun p => p.2.2) (stepR_yes htw hpf)).symm), Ext.of_below hB⟩
  ·
   replace hc11 := df hc11
   refine r_seq (r_region' (l_q (q_eql rfl rfl rfl) (l_q (qab rfl rfl) (l_nil (r_cond rfl (fun hc22 => ?_) (fun hc22 => ?_))))))
   ·
    replace hc22 := dt hc22
    refine r_seq (r_seq (r_region' (l_q (q_move (v := .string _) rfl rfl) (l_q (q_eql_str rfl rfl rfl) (l_q (qmb rfl rfl) (l_part 31 rfl (fun hc23 => ?_) (fun hc23 => ?_)))))))
    ·
     replace hc23 := dt hc23
     refine l_q (q_skip rfl) (l_q (q_skip rfl) (l_q (q_skip rfl) (l_q (q_pick_t (v := .bool _) rfl rfl rfl) (l_nil (r_forget [(1, .string _), (2, .string _), (9, .int _ _), (35, .bool _)] ⟨rfl, rfl, rfl, rfl, trivial⟩ (fun e24 => (r_cond_t rfl (r_seq (r_region' (l_q (q_assign (v := .string _) rfl rfl) (l_q (q_assign (v := .string _) rfl rfl) (l_q (qab rfl rfl) (l_nil (r_ret_ (vs := [.string _, .string _, .bool _]) rfl Tryz.func111 rfl (.nil _) ⟨rfl, rfl, rfl, trivial⟩ ?_))))))))))))))
     have htw : stepTW kind sent = none := by unfold stepTW; simp_all <;> (first | omega | (intro h; omega))
     exact ⟨tup3 (vstr_eq (congrArg (fun p => p.1) (stepR_none htw)).symm) (vstr_eq (congrArg (fun p => p.2.1) (stepR_none htw)).symm) (vbool_eq (congrArg (fun p => p.2.2) (stepR_none htw)).symm), Ext.of_below hB⟩
    ·
     replace hc23 := df hc23
     have hsl : 1 ≤ sent.length := List.length_pos_iff.2 hc23
     refine l_q (q_move (v := .string _) rfl rfl) (l_q (q_index_str (c := (sent).getD 0 0) Tryz.underlying9 rfl rfl (by omega) (getD_some (by omega)) rfl) (l_q (q_neq rfl rfl rfl) (l_q (q_pick_f (v := .bool _) rfl rfl rfl) (l_nil (r_forget [(1, .string _), (2, .string _), (9, .int _ _), (35, .bool _)] ⟨rfl, rfl, rfl, rfl, trivial⟩ (fun e25 => (r_cond rfl (fun hc26 => ?_) (fun hc26 => ?_))))))))
     ·
      replace hc26 := df (nt hc26)
      have hb := u8_ne (n := 45) hc26
      refine r_seq (r_region' (l_q (q_assign (v := .string _) rfl rfl) (l_q (q_assign (v := .string _) rfl rfl) (l_q (qab rfl rfl) (l_nil (r_ret_ (vs := [.string _, .string _, .bool _]) rfl Tryz.func111 rfl (.nil _) ⟨rfl, rfl, rfl, trivial⟩ ?_))))))
      have htw : stepTW kind sent = none := by unfold stepTW; simp_all <;> (first | omega | (intro h; omega))
      exact ⟨tup3 (vstr_eq (congrArg (fun p => p.1) (stepR_none htw)).symm) (vstr_eq (congrArg (fun p => p.2.1) (stepR_none htw)).symm) (vbool_eq (congrArg (fun p => p.2.2) (stepR_none htw)).symm), Ext.of_below hB⟩
     ·
      replace hc26 := dt (nf hc26)
      have hb := u8_eq (n := 45) hc26
      refine r_skip (r_region' (l_q (q_assign (v := .string _) rfl rfl) (l_nil (r_inBlock (r_seq (r_seq ?_))))))
      have htw : stepTW kind sent = some (1, [46, 46]) := by unfold stepTW; simp_all <;> omega
      refine r_region' (l_q (q_move (v := .string _) rfl rfl) (l_q (q_len_str rfl Tryz.underlying9 rfl rfl) (l_q (q_move (v := .string _) rfl rfl) (l_q (q_len_str rfl Tryz.underlying9 rfl rfl) (l_q (q_lss rfl rfl rfl) (l_q (qmb rfl rfl) (l_part 62 rfl (fun hc27 => ?_) (fun hc27 => ?_))))))))
      ·
       replace hc27 := dt hc27
       have hpf := pfx_short hc27
       refine l_q (q_skip rfl) (l_q (q_skip rfl) (l_q (q_skip rfl) (l_q (q_skip rfl) (l_q (q_skip rfl) (l_q (q_skip rfl) (l_q (q_pick_t (v := .bool _) rfl rfl rfl) (l_nil (r_forget [(1, .string _), (2, .string _), (9, .int _ _), (10, .string _), (69, .bool _)] ⟨rfl, rfl, rfl, rfl, rfl, trivial⟩ (fun e28 => (r_cond_t rfl (r_seq (r_region' (l_q (q_assign (v := .string _) rfl rfl) (l_q (q_assign (v := .string _) rfl rfl) (l_q (qab rfl rfl) (l_nil (r_ret_ (vs := [.string _, .string _, .bool _]) rfl Tryz.func111 rfl (.nil _) ⟨rfl, rfl, rfl, trivial⟩ ?_)))))))))))))))))
       exact ⟨tup3 (vstr_eq (congrArg (fun p => p.1) (stepR_no htw hpf)).symm) (vstr_eq (congrArg (fun p => p.2.1) (stepR_no htw hpf)).symm) (vbool_eq (congrArg (fun p => p.2.2) (stepR_no htw hpf)).symm), Ext.of_below hB⟩
      ·
       replace hc27 := dlt hc27
       refine l_q (q_move (v := .string _) rfl rfl) (l_q (q_move (v := .string _) rfl rfl) (l_q (q_len_str rfl Tryz.underlying9 rfl rfl) (l_q (q_slice_str_hi Tryz.underlying9 rfl rfl (by omega) rfl) (l_q (q_move (v := .string _) rfl rfl) (l_q (q_neq_str rfl rfl rfl) (l_q (q_pick_f (v := .bool _) rfl rfl rfl) (l_nil (r_forget [(1, .string _), (2, .string _), (9, .int _ _), (10, .string _), (69, .bool _)] ⟨rfl, rfl, rfl, rfl, rfl, trivial⟩ (fun e29 => (r_cond rfl (fun hc30 => ?_) (fun hc30 => ?_)))))))))))
       ·
        replace hc30 := df (nt hc30)
        have hpf := pfx_no hc30
        refine r_seq (r_region' (l_q (q_assign (v := .string _) rfl rfl) (l_q (q_assign (v := .string _) rfl rfl) (l_q (qab rfl rfl) (l_nil (r_ret_ (vs := [.string _, .string _, .bool _]) rfl Tryz.func111 rfl (.nil _) ⟨rfl, rfl, rfl, trivial⟩ ?_))))))
        exact ⟨tup3 (vstr_eq (congrArg (fun p => p.1) (stepR_no htw hpf)).symm) (vstr_eq (congrArg (fun p => p.2.1) (stepR_no htw hpf)).symm) (vbool_eq (congrArg (fun p => p.2.2) (stepR_no htw hpf)).symm), Ext.of_below hB⟩
       ·
        replace hc30 := dt (nf hc30)
        have hpf := pfx_yes hc30
        refine r_skip (r_seq (r_draw ext_refl' ext_trans' [0, 1, 2, 3, 4, 5, 6, 7, 8, 9] [] 2 (by kernel_rfl) (by kernel_rfl) ?_))
        intro w31 _ hE31
        replace hB := below_ext hB hE31 hsz
        replace hsz := Nat.le_trans hsz hE31.size
        refine m_q rfl rfl (fun w' hC' => q_move (v := .string _) rfl rfl) (m_q rfl rfl (fun w' hC' => qmi rfl rfl) (m_q rfl rfl (fun w' hC' => q_slice_str_lo Tryz.underlying9 rfl rfl (by omega) rfl) (m_q rfl rfl (fun w' hC' => q_move (v := .string _) rfl rfl) (m_q rfl rfl (fun w' hC' => q_move (v := .string _) rfl rfl) (m_q rfl rfl (fun w' hC' => q_len_str rfl Tryz.underlying9 rfl rfl) (m_q rfl rfl (fun w' hC' => q_slice_str_lo Tryz.underlying9 rfl rfl (by omega) rfl) (m_q rfl rfl (fun w' hC' => q_assign (v := .string _) rfl rfl) (m_q rfl rfl (fun w' hC' => q_assign (v := .string _) rfl rfl) (m_q rfl rfl (fun w' hC' => qab rfl rfl) (m_nil (r_forget [(6, .string _), (7, .string _), (8, .bool _)] ⟨rfl, rfl, rfl, trivial⟩ (fun e32 => (r_ret_ (vs := [.string _, .string _, .bool _]) rfl Tryz.func111 rfl (.nil _) ⟨rfl, rfl, rfl, trivial⟩ ?_)))))))))))))
        exact ⟨tup3 (vstr_eq (congrArg (fun p => p.1) (stepR_yes htw hpf)).symm) (vstr_eq (congrArg (fun p => p.2.1) (stepR_yes htw hpf)).symm) (vbool_eq (congrArg (fun p => p.2.2) (stepR_yes htw hpf)).symm), Ext.of_below hB⟩
   ·
    replace hc22 := df hc22
    refine r_seq (r_region' (l_q (q_eql rfl rfl rfl) (l_q (qab rfl rfl) (l_nil (r_forget [(1, .string _), (2, .string _), (9, .int _ _), (10, .string _), (11, .int _ _), (36, .bool _)] ⟨rfl, rfl, rfl, rfl, rfl, rfl, trivial⟩ (fun e33 => (r_cond rfl (fun hc34 => ?_) (fun hc34 => ?_))))))))
    ·
     replace hc34 := dt hc34
     refine r_seq (r_seq (r_region' (l_q (q_move (v := .string _) rfl rfl) (l_q (q_len_str rfl Tryz.underlying9 rfl rfl) (l_q (q_lss rfl rfl rfl) (l_q (qmb rfl rfl) (l_part 41 rfl (fun hc35 => ?_) (fun hc35 => ?_))))))))
     ·
      replace hc35 := dt hc35
      refine l_q (q_skip rfl) (l_q (q_skip rfl) (l_q (q_skip rfl) (l_q (q_pick_t (v := .bool _) rfl rfl rfl) (l_nil (r_forget [(1, .string _), (2, .string _), (45, .bool _)] ⟨rfl, rfl, rfl, trivial⟩ (fun e36 => (r_cond_t rfl (r_seq (r_region' (l_q (q_assign (v := .string _) rfl rfl) (l_q (q_assign (v := .string _) rfl rfl) (l_q (qab rfl rfl) (l_nil (r_ret_ (vs := [.string _, .string _, .bool _]) rfl Tryz.func111 rfl (.nil _) ⟨rfl, rfl, rfl, trivial⟩ ?_))))))))))))))
      have htw : stepTW kind sent = none := by unfold stepTW; simp_all <;> (first | omega | (intro h; omega))
      exact ⟨tup3 (vstr_eq (congrArg (fun p => p.1) (stepR_none htw)).symm) (vstr_eq (congrArg (fun p => p.2.1) (stepR_none htw)).symm) (vbool_eq (congrArg (fun p => p.2.2) (stepR_none htw)).symm), Ext.of_below hB⟩
     ·
      replace hc35 := dlt hc35
      refine l_q (q_move (v := .string _) rfl rfl) (l_q (q_slice_str_hi Tryz.underlying9 rfl rfl (by omega) rfl) (l_q (q_neq_str rfl rfl rfl) (l_q (q_pick_f (v := .bool _) rfl rfl rfl) (l_nil (r_forget [(1, .string _), (2, .string _), (45, .bool _)] ⟨rfl, rfl, rfl, trivial⟩ (fun e37 => (r_cond rfl (fun hc38 => ?_) (fun hc38 => ?_))))))))
      ·
       replace hc38 := df (nt hc38)
       refine r_seq (r_region' (l_q (q_assign (v := .string _) rfl rfl) (l_q (q_assign (v := .string _) rfl rfl) (l_q (qab rfl rfl) (l_nil (r_ret_ (vs := [.string _, .string _, .bool _]) rfl Tryz.func111 rfl (.nil _) ⟨rfl, rfl, rfl, trivial⟩ ?_))))))
       have htw : stepTW kind sent = none := by unfold stepTW; simp_all <;> (first | omega | (intro h; omega))
       exact ⟨tup3 (vstr_eq (congrArg (fun p => p.1) (stepR_none htw)).symm) (vstr_eq (congrArg (fun p => p.2.1) (stepR_none htw)).symm) (vbool_eq (congrArg (fun p => p.2.2) (stepR_none htw)).symm), Ext.of_below hB⟩
      ·
       replace hc38 := dt (nf hc38)
       refine r_skip (r_region' (l_q (qai rfl rfl) (l_q (q_assign (v := .string _) rfl rfl) (l_nil (r_inBlock (r_seq (r_seq ?_)))))))
       have htw : stepTW kind sent = some (2, [45]) := by unfold stepTW; simp_all <;> omega
       refine r_region' (l_q (q_move (v := .string _) rfl rfl) (l_q (q_len_str rfl Tryz.underlying9 rfl rfl) (l_q (q_move (v := .string _) rfl rfl) (l_q (q_len_str rfl Tryz.underlying9 rfl rfl) (l_q (q_lss rfl rfl rfl) (l_q (qmb rfl rfl) (l_part 62 rfl (fun hc39 => ?_) (fun hc39 => ?_))))))))
       ·
        replace hc39 := dt hc39
        have hpf := pfx_short hc39
        refine l_q (q_skip rfl) (l_q (q_skip rfl) (l_q (q_skip rfl) (l_q (q_skip rfl) (l_q (q_skip rfl) (l_q (q_skip rfl) (l_q (q_pick_t (v := .bool _) rfl rfl rfl) (l_nil (r_forget [(1, .string _), (2, .string _), (9, .int _ _), (10, .string _), (69, .bool _)] ⟨rfl, rfl, rfl, rfl, rfl, trivial⟩ (fun e40 => (r_cond_t rfl (r_seq (r_region' (l_q (q_assign (v := .string _) rfl rfl) (l_q (q_assign (v := .string _) rfl rfl) (l_q (qab rfl rfl) (l_nil (r_ret_ (vs := [.string _, .string _, .bool _]) rfl Tryz.func111 rfl (.nil _) ⟨rfl, rfl, rfl, trivial⟩ ?_)))))))))))))))))
        exact ⟨tup3 (vstr_eq (congrArg (fun p => p.1) (stepR_no htw hpf)).symm) (vstr_eq (congrArg (fun p => p.2.1) (stepR_no htw hpf)).symm) (vbool_eq (congrArg (fun p => p.2.2) (stepR_no htw hpf)).symm), Ext.of_below hB⟩
       ·
        replace hc39 := dlt hc39
        refine l_q (q_move (v := .string _) rfl rfl) (l_q (q_move (v := .string _) rfl rfl) (l_q (q_len_str rfl Tryz.underlying9 rfl rfl) (l_q (q_slice_str_hi Tryz.underlying9 rfl rfl (by omega) rfl) (l_q (q_move (v := .string _) rfl rfl) (l_q (q_neq_str rfl rfl rfl) (l_q (q_pick_f (v := .bool _) rfl rfl rfl) (l_nil (r_forget [(1, .string _), (2, .string _), (9, .int _ _), (10, .string _), (69, .bool _)] ⟨rfl, rfl, rfl, rfl, rfl, trivial⟩ (fun e41 => (r_cond rfl (fun hc42 => ?_) (fun hc42 => ?_)))))))))))
        ·
         replace hc42 := df (nt hc42)
         have hpf := pfx_no hc42
         refine r_seq (r_region' (l_q (q_assign (v := .string _) rfl rfl) (l_q (q_assign (v := .string _) rfl rfl) (l_q (qab rfl rfl) (l_nil (r_ret_ (vs := [.string _, .string _, .bool _]) rfl Tryz.func111 rfl (.nil _) ⟨rfl, rfl, rfl, trivial⟩ ?_))))))
         exact ⟨tup3 (vstr_eq (congrArg (fun p => p.1) (stepR_no htw hpf)).symm) (vstr_eq (congrArg (fun p => p.2.1) (stepR_no htw hpf)).symm) (vbool_eq (congrArg (fun p => p.2.2) (stepR_no htw hpf)).symm), Ext.of_below hB⟩
        ·
         replace hc42 := dt (nf hc42)
         have hpf := pfx_yes hc42
         refine r_skip (r_seq (r_draw ext_refl' ext_trans' [0, 1, 2, 3, 4, 5, 6, 7, 8, 9] [] 2 (by kernel_rfl) (by kernel_rfl) ?_))
         intro w43 _ hE43
         replace hB := below_ext hB hE43 hsz
         replace hsz := Nat.le_trans hsz hE43.size
         refine m_q rfl rfl (fun w' hC' => q_move (v := .string _) rfl rfl) (m_q rfl rfl (fun w' hC' => qmi rfl rfl) (m_q rfl rfl (fun w' hC' => q_slice_str_lo Tryz.underlying9 rfl rfl (by omega) rfl) (m_q rfl rfl (fun w' hC' => q_move (v := .string _) rfl rfl) (m_q rfl rfl (fun w' hC' => q_move (v := .string _) rfl rfl) (m_q rfl rfl (fun w' hC' => q_len_str rfl Tryz.underlying9 rfl rfl) (m_q rfl rfl (fun w' hC' => q_slice_str_lo Tryz.underlying9 rfl rfl (by omega) rfl) (m_q rfl rfl (fun w' hC' => q_assign (v := .string _) rfl rfl) (m_q rfl rfl (fun w' hC' => q_assign (v := .string _) rfl rfl) (m_q rfl rfl (fun w' hC' => qab rfl rfl) (m_nil (r_forget [(6, .string _), (7, .string _), (8, .bool _)] ⟨rfl, rfl, rfl, trivial⟩ (fun e44 => (r_ret_ (vs := [.string _, .string _, .bool _]) rfl Tryz.func111 rfl (.nil _) ⟨rfl, rfl, rfl, trivial⟩ ?_)))))))))))))
         exact ⟨tup3 (vstr_eq (congrArg (fun p => p.1) (stepR_yes htw hpf)).symm) (vstr_eq (congrArg (fun p => p.2.1) (stepR_yes htw hpf)).symm) (vbool_eq (congrArg (fun p => p.2.2) (stepR_yes htw hpf)).symm), Ext.of_below hB⟩
    ·
     replace hc34 := df hc34
     refine r_seq (r_region' (l_q (q_eql rfl rfl rfl) (l_q (qab rfl rfl) (l_nil (r_cond rfl (fun hc45 => ?_) (fun hc45 => ?_))))))
     ·
      replace hc45 := dt hc45
      refine r_seq (r_region' (l_q (q_move (v := .string _) rfl rfl) (l_q (q_eql_str rfl rfl rfl) (l_q (qmb rfl rfl) (l_part 50 rfl (fun hc46 => ?_) (fun hc46 => ?_))))))
      ·
       replace hc46 := dt hc46
       refine l_q (q_skip rfl) (l_q (q_skip rfl) (l_q (q_skip rfl) (l_q (q_pick_t (v := .bool _) rfl rfl rfl) (l_nil (r_forget [(1, .string _), (2, .string _), (9, .int _ _), (10, .string _), (54, .bool _)] ⟨rfl, rfl, rfl, rfl, rfl, trivial⟩ (fun e47 => (r_cond_t rfl (r_seq (r_region' (l_q (q_assign (v := .string _) rfl rfl) (l_q (q_assign (v := .string _) rfl rfl) (l_q (qab rfl rfl) (l_nil (r_ret_ (vs := [.string _, .string _, .bool _]) rfl Tryz.func111 rfl (.nil _) ⟨rfl, rfl, rfl, trivial⟩ ?_))))))))))))))
       have htw : stepTW kind sent = none := by unfold stepTW; simp_all <;> (first | omega | (intro h; omega))
       exact ⟨tup3 (vstr_eq (congrArg (fun p => p.1) (stepR_none htw)).symm) (vstr_eq (congrArg (fun p => p.2.1) (stepR_none htw)).symm) (vbool_eq (congrArg (fun p => p.2.2) (stepR_none htw)).symm), Ext.of_below hB⟩
      ·
       replace hc46 := df hc46
       have hsl : 1 ≤ sent.length := List.length_pos_iff.2 hc46
       refine l_q (q_move (v := .string _) rfl rfl) (l_q (q_index_str (c := (sent).getD 0 0) Tryz.underlying9 rfl rfl (by omega) (getD_some (by omega)) rfl) (l_q (q_neq rfl rfl rfl) (l_q (q_pick_f (v := .bool _) rfl rfl rfl) (l_nil (r_forget [(1, .string _), (2, .string _), (9, .int _ _), (10, .string _), (54, .bool _)] ⟨rfl, rfl, rfl, rfl, rfl, trivial⟩ (fun e48 => (r_cond rfl (fun hc49 => ?_) (fun hc49 => ?_))))))))
       ·
        replace hc49 := df (nt hc49)
        have hb := u8_ne (n := 32) hc49
        refine r_seq (r_region' (l_q (q_assign (v := .string _) rfl rfl) (l_q (q_assign (v := .string _) rfl rfl) (l_q (qab rfl rfl) (l_nil (r_ret_ (vs := [.string _, .string _, .bool _]) rfl Tryz.func111 rfl (.nil _) ⟨rfl, rfl, rfl, trivial⟩ ?_))))))
        have htw : stepTW kind sent = none := by unfold stepTW; simp_all <;> (first | omega | (intro h; omega))
        exact ⟨tup3 (vstr_eq (congrArg (fun p => p.1) (stepR_none htw)).symm) (vstr_eq (congrArg (fun p => p.2.1) (stepR_none htw)).symm) (vbool_eq (congrArg (fun p => p.2.2) (stepR_none htw)).symm), Ext.of_below hB⟩
       ·
        replace hc49 := dt (nf hc49)
        have hb := u8_eq (n := 32) hc49
        refine r_skip (r_inBlock (r_seq (r_seq ?_)))
        have htw : stepTW kind sent = some (1, []) := by unfold stepTW; simp_all <;> omega
        refine r_region' (l_q (q_move (v := .string _) rfl rfl) (l_q (q_len_str rfl Tryz.underlying9 rfl rfl) (l_q (q_move (v := .string _) rfl rfl) (l_q (q_len_str rfl Tryz.underlying9 rfl rfl) (l_q (q_lss rfl rfl rfl) (l_q (qmb rfl rfl) (l_part 62 rfl (fun hc50 => ?_) (fun hc50 => ?_))))))))
        ·
         replace hc50 := dt hc50
         have hpf := pfx_short hc50
         refine l_q (q_skip rfl) (l_q (q_skip rfl) (l_q (q_skip rfl) (l_q (q_skip rfl) (l_q (q_skip rfl) (l_q (q_skip rfl) (l_q (q_pick_t (v := .bool _) rfl rfl rfl) (l_nil (r_forget [(1, .string _), (2, .string _), (9, .int _ _), (10, .string _), (69, .bool _)] ⟨rfl, rfl, rfl, rfl, rfl, trivial⟩ (fun e51 => (r_cond_t rfl (r_seq (r_region' (l_q (q_assign (v := .string _) rfl rfl) (l_q (q_assign (v := .string _) rfl rfl) (l_q (qab rfl rfl) (l_nil (r_ret_ (vs := [.string _, .string _, .bool _]) rfl Tryz.func111 rfl (.nil _) ⟨rfl, rfl, rfl, trivial⟩ ?_)))))))))))))))))
         exact ⟨tup3 (vstr_eq (congrArg (fun p => p.1) (stepR_no htw hpf)).symm) (vstr_eq (congrArg (fun p => p.2.1) (stepR_no htw hpf)).symm) (vbool_eq (congrArg (fun p => p.2.2) (stepR_no htw hpf)).symm), Ext.of_below hB⟩
        ·
         replace hc50 := dlt hc50
         refine l_q (q_move (v := .string _) rfl rfl) (l_q (q_move (v := .string _) rfl rfl) (l_q (q_len_str rfl Tryz.underlying9 rfl rfl) (l_q (q_slice_str_hi Tryz.underlying9 rfl rfl (by omega) rfl) (l_q (q_move (v := .string _) rfl rfl) (l_q (q_neq_str rfl rfl rfl) (l_q (q_pick_f (v := .bool _) rfl rfl rfl) (l_nil (r_forget [(1, .string _), (2, .string _), (9, .int _ _), (10, .string _), (69, .bool _)] ⟨rfl, rfl, rfl, rfl, rfl, trivial⟩ (fun e52 => (r_cond rfl (fun hc53 => ?_) (fun hc53 => ?_)))))))))))
         ·
          replace hc53 := df (nt hc53)
          have hpf := pfx_no hc53
          refine r_seq (r_region' (l_q (q_assign (v := .string _) rfl rfl) (l_q (q_assign (v := .string _) rfl rfl) (l_q (qab rfl rfl) (l_nil (r_ret_ (vs := [.string _, .string _, .bool _]) rfl Tryz.func111 rfl (.nil _) ⟨rfl, rfl, rfl, trivial⟩ ?_))))))
          exact ⟨tup3 (vstr_eq (congrArg (fun p => p.1) (stepR_no htw hpf)).symm) (vstr_eq (congrArg (fun p => p.2.1) (stepR_no htw hpf)).symm) (vbool_eq (congrArg (fun p => p.2.2) (stepR_no htw hpf)).symm), Ext.of_below hB⟩
         ·
          replace hc53 := dt (nf hc53)
          have hpf := pfx_yes hc53
          refine r_skip (r_seq (r_draw ext_refl' ext_trans' [0, 1, 2, 3, 4, 5, 6, 7, 8, 9] [] 2 (by kernel_rfl) (by kernel_rfl) ?_))
          intro w54 _ hE54
          replace hB := below_ext hB hE54 hsz
          replace hsz := Nat.le_trans hsz hE54.size
          refine m_q rfl rfl (fun w' hC' => q_move (v := .string _) rfl rfl) (m_q rfl rfl (fun w' hC' => qmi rfl rfl) (m_q rfl rfl (fun w' hC' => q_slice_str_lo Tryz.underlying9 rfl rfl (by omega) rfl) (m_q rfl rfl (fun w' hC' => q_move (v := .string _) rfl rfl) (m_q rfl rfl (fun w' hC' => q_move (v := .string _) rfl rfl) (m_q rfl rfl (fun w' hC' => q_len_str rfl Tryz.underlying9 rfl rfl) (m_q rfl rfl (fun w' hC' => q_slice_str_lo Tryz.underlying9 rfl rfl (by omega) rfl) (m_q rfl rfl (fun w' hC' => q_assign (v := .string _) rfl rfl) (m_q rfl rfl (fun w' hC' => q_assign (v := .string _) rfl rfl) (m_q rfl rfl (fun w' hC' => qab rfl rfl) (m_nil (r_forget [(6, .string _), (7, .string _), (8, .bool _)] ⟨rfl, rfl, rfl, trivial⟩ (fun e55 => (r_ret_ (vs := [.string _, .string _, .bool _]) rfl Tryz.func111 rfl (.nil _) ⟨rfl, rfl, rfl, trivial⟩ ?_)))))))))))))
          exact ⟨tup3 (vstr_eq (congrArg (fun p => p.1) (stepR_yes htw hpf)).symm) (vstr_eq (congrArg (fun p => p.2.1) (stepR_yes htw hpf)).symm) (vbool_eq (congrArg (fun p => p.2.2) (stepR_yes htw hpf)).symm), Ext.of_below hB⟩
     ·
      replace hc45 := df hc45
      refine r_seq (r_region' (l_q (q_eql rfl rfl rfl) (l_q (qab rfl rfl) (l_nil (r_cond rfl (fun hc56 => ?_) (fun hc56 => ?_))))))
      ·
       replace hc56 := dt hc56
       refine r_region' (l_q (qai rfl rfl) (l_q (q_assign (v := .string _) rfl rfl) (l_nil (r_inBlock (r_seq (r_seq ?_))))))
       have htw : stepTW kind sent = some (0, [32]) := by unfold stepTW; simp_all <;> omega
       refine r_region' (l_q (q_move (v := .string _) rfl rfl) (l_q (q_len_str rfl Tryz.underlying9 rfl rfl) (l_q (q_move (v := .string _) rfl rfl) (l_q (q_len_str rfl Tryz.underlying9 rfl rfl) (l_q (q_lss rfl rfl rfl) (l_q (qmb rfl rfl) (l_part 62 rfl (fun hc57 => ?_) (fun hc57 => ?_))))))))
       ·
        replace hc57 := dt hc57
        have hpf := pfx_short hc57
        refine l_q (q_skip rfl) (l_q (q_skip rfl) (l_q (q_skip rfl) (l_q (q_skip rfl) (l_q (q_skip rfl) (l_q (q_skip rfl) (l_q (q_pick_t (v := .bool _) rfl rfl rfl) (l_nil (r_forget [(1, .string _), (2, .string _), (9, .int _ _), (10, .string _), (69, .bool _)] ⟨rfl, rfl, rfl, rfl, rfl, trivial⟩ (fun e58 => (r_cond_t rfl (r_seq (r_region' (l_q (q_assign (v := .string _) rfl rfl) (l_q (q_assign (v := .string _) rfl rfl) (l_q (qab rfl rfl) (l_nil (r_ret_ (vs := [.string _, .string _, .bool _]) rfl Tryz.func111 rfl (.nil _) ⟨rfl, rfl, rfl, trivial⟩ ?_)))))))))))))))))
        exact ⟨tup3 (vstr_eq (congrArg (fun p => p.1) (stepR_no htw hpf)).symm) (vstr_eq (congrArg (fun p => p.2.1) (stepR_no htw hpf)).symm) (vbool_eq (congrArg (fun p => p.2.2) (stepR_no htw hpf)).symm), Ext.of_below hB⟩
       ·
        replace hc57 := dlt hc57
        refine l_q (q_move (v := .string _) rfl rfl) (l_q (q_move (v := .string _) rfl rfl) (l_q (q_len_str rfl Tryz.underlying9 rfl rfl) (l_q (q_slice_str_hi Tryz.underlying9 rfl rfl (by omega) rfl) (l_q (q_move (v := .string _) rfl rfl) (l_q (q_neq_str rfl rfl rfl) (l_q (q_pick_f (v := .bool _) rfl rfl rfl) (l_nil (r_forget [(1, .string _), (2, .string _), (9, .int _ _), (10, .string _), (69, .bool _)] ⟨rfl, rfl, rfl, rfl, rfl, trivial⟩ (fun e59 => (r_cond rfl (fun hc60 => ?_) (fun hc60 => ?_)))))))))))
        ·
         replace hc60 := df (nt hc60)
         have hpf := pfx_no hc60
         refine r_seq (r_region' (l_q (q_assign (v := .string _) rfl rfl) (l_q (q_assign (v := .string _) rfl rfl) (l_q (qab rfl rfl) (l_nil (r_ret_ (vs := [.string _, .string _, .bool _]) rfl Tryz.func111 rfl (.nil _) ⟨rfl, rfl, rfl, trivial⟩ ?_))))))
         exact ⟨tup3 (vstr_eq (congrArg (fun p => p.1) (stepR_no htw hpf)).symm) (vstr_eq (congrArg (fun p => p.2.1) (stepR_no htw hpf)).symm) (vbool_eq (congrArg (fun p => p.2.2) (stepR_no htw hpf)).symm), Ext.of_below hB⟩
        ·
         replace hc60 := dt (nf hc60)
         have hpf := pfx_yes hc60
         refine r_skip (r_seq (r_draw ext_refl' ext_trans' [0, 1, 2, 3, 4, 5, 6, 7, 8, 9] [] 2 (by kernel_rfl) (by kernel_rfl) ?_))
         intro w61 _ hE61
         replace hB := below_ext hB hE61 hsz
         replace hsz := Nat.le_trans hsz hE61.size
         refine m_q rfl rfl (fun w' hC' => q_move (v := .string _) rfl rfl) (m_q rfl rfl (fun w' hC' => qmi rfl rfl) (m_q rfl rfl (fun w' hC' => q_slice_str_lo Tryz.underlying9 rfl rfl (by omega) rfl) (m_q rfl rfl (fun w' hC' => q_move (v := .string _) rfl rfl) (m_q rfl rfl (fun w' hC' => q_move (v := .string _) rfl rfl) (m_q rfl rfl (fun w' hC' => q_len_str rfl Tryz.underlying9 rfl rfl) (m_q rfl rfl (fun w' hC' => q_slice_str_lo Tryz.underlying9 rfl rfl (by omega) rfl) (m_q rfl rfl (fun w' hC' => q_assign (v := .string _) rfl rfl) (m_q rfl rfl (fun w' hC' => q_assign (v := .string _) rfl rfl) (m_q rfl rfl (fun w' hC' => qab rfl rfl) (m_nil (r_forget [(6, .string _), (7, .string _), (8, .bool _)] ⟨rfl, rfl, rfl, trivial⟩ (fun e62 => (r_ret_ (vs := [.string _, .string _, .bool _]) rfl Tryz.func111 rfl (.nil _) ⟨rfl, rfl, rfl, trivial⟩ ?_)))))))))))))
         exact ⟨tup3 (vstr_eq (congrArg (fun p => p.1) (stepR_yes htw hpf)).symm) (vstr_eq (congrArg (fun p => p.2.1) (stepR_yes htw hpf)).symm) (vbool_eq (congrArg (fun p => p.2.2) (stepR_yes htw hpf)).symm), Ext.of_below hB⟩
      ·
       replace hc56 := df hc56
       refine r_seq (r_region' (l_q (q_assign (v := .string _) rfl rfl) (l_q (q_assign (v := .string _) rfl rfl) (l_q (qab rfl rfl) (l_nil (r_forget [(6, .string _), (7, .string _), (8, .bool _)] ⟨rfl, rfl, rfl, trivial⟩ (fun e63 => (r_ret_ (vs := [.string _, .string _, .bool _]) rfl Tryz.func111 rfl (.nil _) ⟨rfl, rfl, rfl, trivial⟩ ?_))))))))
       have htw : stepTW kind sent = none := by unfold stepTW; simp_all <;> (first | omega | (intro h; omega))
       exact ⟨tup3 (vstr_eq (congrArg (fun p => p.1) (stepR_none htw)).symm) (vstr_eq (congrArg (fun p => p.2.1) (stepR_none htw)).symm) (vbool_eq (congrArg (fun p => p.2.2) (stepR_none htw)).symm), Ext.of_below hB⟩
end Go.Proofs.YtekkdhpgcilpdaaGreat
