/- Contracts. -/
import Derived.Test.YtfbjllabgkabkaaF8
set_option linter.unusedVariables false
set_option linter.unusedSimpArgs false
namespace Go.Proofs.Ytfbjllabgkabkaa
open Go Go.RowKit Go.Gv Go.Fl

theorem catL_le {L : List SV} (h : ∀ s ∈ L, s.xs.length ≤ 2097152) : (catL L).length ≤ L.length * 2097152 := by
  unfold catL
  induction L with
  | nil => simp
  | cons s l ih =>
    have h1 := h s (by simp)
    have h2 := ih (fun x hx => h x (by simp [hx]))
    simp only [List.map_cons, List.flatten_cons, List.length_append, List.length_cons]
    omega
def repAll (T : List (List Int)) : Int × Int × Int := if listFault T = 0 then ((rep T 5).1, (rep T 5).2, 0) else (0, 0, listFault T)
theorem rep_err {T : List (List Int)} {n : Int} (h : listFault T = n) (h0 : n ≠ 0) : repAll T = (0, 0, n) := by unfold repAll; rw [h, if_neg h0]
theorem rep_ok {T : List (List Int)} {m f : Nat} (h : listFault T = 0) (hm : m < 6) (hf : f < 5) (hd : decidesB T f m = true) (hno : ∀ i, i < m * 5 + f → decidesB T (i % 5) (i / 5) = false) : repAll T = ((f : Int), (m : Int), 0) := by
  unfold repAll; rw [h, if_pos rfl, rep5 hm hf hd hno]
theorem all5 {L : List SV} (h : L.all (fun s => decide ((s.xs.length : Int) ≤ 5)) = true) : (L.map (·.xs)).all (fun t => decide (t.length ≤ 5)) = true := by
  rw [List.all_map]; rw [List.all_eq_true] at h ⊢
  intro s hs; have := h s hs
  simp only [decide_eq_true_eq, Function.comp] at this ⊢; omega
theorem allc {L : List SV} (h : (catL L).all (fun n => decide (0 ≤ n) && decide (n ≤ 5)) = true) : (L.map (·.xs)).all (fun t => t.all (fun n => decide (0 ≤ n) && decide (n ≤ 5))) = true := by
  rw [catL, List.all_flatten] at h; exact h
theorem lf_three (L : List SV) (h : 64 < L.length ∨ L.all (fun s => decide ((s.xs.length : Int) ≤ 5)) = false) : listFault (L.map (·.xs)) = 3 := by
  unfold listFault
  rw [if_pos]
  rcases h with h | h
  · left; rw [List.length_map]; exact h
  · right
    rw [List.all_eq_false] at h
    obtain ⟨s, hs, hl⟩ := h
    rw [List.all_eq_false]
    exact ⟨s.xs, List.mem_map.2 ⟨s, hs, rfl⟩, by simp only [decide_eq_true_eq] at hl ⊢; omega⟩
theorem lf_two (L : List SV) (h64 : L.length ≤ 64) (h5 : (L.map (·.xs)).all (fun t => decide (t.length ≤ 5)) = true) (h : L.length = 0 ∨ (catL L).all (fun n => decide (0 ≤ n) && decide (n ≤ 5)) = false) : listFault (L.map (·.xs)) = 2 := by
  unfold listFault
  rw [if_neg (lf_no3 h64 h5), if_pos]
  rcases h with h | h
  · left; rw [List.eq_nil_of_length_eq_zero h]; rfl
  · right; rw [catL, List.all_flatten] at h; exact h
theorem pfx_short {s p : Sg} (h : (s.length : Int) < p.length) : hasPfx s p = false := by
  unfold hasPfx
  rw [decide_eq_false_iff_not]
  intro he; have := congrArg List.length he
  rw [List.length_take] at this; omega
theorem pfx_no {s p : Sg} {n : Nat} (h : ¬ s.take n = p) (hn : n = p.length := by rfl) : hasPfx s p = false := by unfold hasPfx; rw [← hn]; exact decide_eq_false h
theorem pfx_yes {s p : Sg} {n : Nat} (h : s.take n = p) (hn : n = p.length := by rfl) : hasPfx s p = true := by unfold hasPfx; rw [← hn]; exact decide_eq_true h
theorem stepR_none {k : Int} {s r : Sg} (h : stepTW k s = none) : stepR k s r = ([], [], false) := by unfold stepR; rw [h]
theorem stepR_no {k : Int} {s r : Sg} {t : Nat} {wr : Sg} (h : stepTW k s = some (t, wr)) (hp : hasPfx r wr = false) : stepR k s r = ([], [], false) := by unfold stepR; rw [h]; simp [hp]
theorem stepR_yes {k : Int} {s r : Sg} {t : Nat} {wr : Sg} (h : stepTW k s = some (t, wr)) (hp : hasPfx r wr = true) : stepR k s r = (s.drop t, r.drop wr.length, true) := by unfold stepR; rw [h]; simp [hp]
def doS (s r : Sg) (n : Int) : List Int → Int × Bool
  | [] => (n, decide (s = []) && decide (r = []))
  | k :: ks => if (stepR k s r).2.2 = true then doS (stepR k s r).1 (stepR k s r).2.1 (n + cost k) ks else (0, false)
theorem cost_le (k : Int) : 0 ≤ cost k ∧ cost k ≤ 1 := by unfold cost; split <;> omega
theorem stepR_len (k : Int) (s r : Sg) : (stepR k s r).1.length ≤ s.length ∧ (stepR k s r).2.1.length ≤ r.length := by
  unfold stepR
  cases stepTW k s with
  | none => simp
  | some p =>
    obtain ⟨t, wr⟩ := p
    simp only
    split
    · simp only [List.length_drop]; omega
    · simp
theorem doS_step {s r : Sg} {n : Int} {xs : List Int} {k : Nat} (hk : k < xs.length) (h : (stepR (xs.getD k 0) s r).2.2 = true) : doS s r n (xs.drop k) = doS (stepR (xs.getD k 0) s r).1 (stepR (xs.getD k 0) s r).2.1 (n + cost (xs.getD k 0)) (xs.drop (k + 1)) := by
  rw [drop_getD (d := 0) hk, doS, if_pos h]
theorem doS_no {s r : Sg} {n : Int} {xs : List Int} {k : Nat} (hk : k < xs.length) (h : (stepR (xs.getD k 0) s r).2.2 = false) : doS s r n (xs.drop k) = (0, false) := by
  rw [drop_getD (d := 0) hk, doS, if_neg (by rw [h]; exact Bool.false_ne_true)]
theorem doS_end {s r : Sg} {n : Int} {xs : List Int} {k : Nat} (hk : xs.length ≤ k) : doS s r n (xs.drop k) = (n, decide (s = []) && decide (r = [])) := by
  rw [List.drop_eq_nil_of_le hk, doS]


theorem step_ret (kind : Int) (sent read : Sg) (w : World) (hs : sent.length ≤ 2097152) (hr : read.length ≤ 2097152) : Ret Try.prog 52 [vint kind, vstr sent, vstr read] w (fun v w' => v = .tuple ⟨[vstr ((stepR kind sent read).1), vstr ((stepR kind sent read).2.1), .bool ((stepR kind sent read).2.2)]⟩ ∧ Ext w w') := by
  have hB := Below.refl w.heap.size w
  have hsz : w.heap.size ≤ w.heap.size := Nat.le_refl _
  refine ret_of_runs (args := [_, _, _]) Try.func52 rfl (Nat.le_of_ble_eq_true rfl) (by kernel_rfl) ?_
  refine r_seq ?_
  refine r_region' ?_
  refine l_q (q_assign (v := .string _) rfl rfl) ?_
  refine l_q (q_assign (v := .string _) rfl rfl) ?_
  refine l_q (q_assign (v := .bool _) rfl rfl) ?_
  refine l_nil ?_
  refine r_forget [(0, .int _ _), (1, .string _), (2, .string _)] ⟨rfl, rfl, rfl, trivial⟩ (fun e1 => ?_)
  refine r_seq ?_
  refine r_region' ?_
  refine l_q (q_assign (v := .int _ _) rfl rfl) ?_
  refine l_q (q_assign (v := .string _) rfl rfl) ?_
  refine l_nil ?_
  refine r_seq ?_
  refine r_seq ?_
  refine r_region' ?_
  refine l_q (q_move (v := .int _ _) rfl rfl) ?_
  refine l_nil ?_
  refine r_forget [(1, .string _), (2, .string _), (9, .int _ _), (10, .string _), (11, .int _ _)] ⟨rfl, rfl, rfl, rfl, rfl, trivial⟩ (fun e2 => ?_)
  refine r_block ?_
  refine r_seq ?_
  refine r_region' ?_
  refine l_q (q_eql rfl rfl rfl) ?_
  refine l_q (q_assign (v := .bool _) rfl rfl) ?_
  refine l_nil ?_
  refine r_forget [(1, .string _), (2, .string _), (9, .int _ _), (10, .string _), (11, .int _ _), (12, .bool _)] ⟨rfl, rfl, rfl, rfl, rfl, rfl, trivial⟩ (fun e3 => ?_)
  refine r_cond rfl (fun hc4 => ?_) (fun hc4 => ?_)
  · skip
    try simp only [decide_eq_true_eq, decide_eq_false_iff_not, Bool.not_eq_true', Bool.not_eq_false', Bool.not_not, Bool.not_true, Bool.not_false, Bool.not_eq_true, Bool.not_eq_false, Int.not_lt, Int.not_le, Bool.and_eq_true, Bool.or_eq_true, Bool.and_eq_false_iff, Bool.or_eq_false_iff] at hc4
    refine r_seq ?_
    refine r_seq ?_
    refine r_region' ?_
    refine l_q (q_move (v := .string _) rfl rfl) ?_
    refine l_q (q_eql_str rfl rfl rfl) ?_
    refine l_nil ?_
    refine r_forget [(1, .string _), (2, .string _), (9, .int _ _), (15, .bool _)] ⟨rfl, rfl, rfl, rfl, trivial⟩ (fun e5 => ?_)
    refine r_cond rfl (fun hc6 => ?_) (fun hc6 => ?_)
    · skip
      try simp only [decide_eq_true_eq, decide_eq_false_iff_not, Bool.not_eq_true', Bool.not_eq_false', Bool.not_not, Bool.not_true, Bool.not_false, Bool.not_eq_true, Bool.not_eq_false, Int.not_lt, Int.not_le, Bool.and_eq_true, Bool.or_eq_true, Bool.and_eq_false_iff, Bool.or_eq_false_iff] at hc6
      refine r_seq ?_
      refine r_region' ?_
      refine l_q (q_assign (v := .string _) rfl rfl) ?_
      refine l_q (q_assign (v := .string _) rfl rfl) ?_
      refine l_q (q_assign (v := .bool _) rfl rfl) ?_
      refine l_nil ?_
      refine r_forget [(6, .string _), (7, .string _), (8, .bool _)] ⟨rfl, rfl, rfl, trivial⟩ (fun e7 => ?_)
      refine r_ret_ (vs := [.string _, .string _, .bool _]) rfl Try.func52 rfl (.nil _) ⟨rfl, rfl, rfl, trivial⟩ ?_
      have htw : stepTW kind sent = none := by unfold stepTW; simp_all <;> (first | omega | (intro h; omega))
      exact ⟨tup3 (vstr_eq (congrArg (fun p => p.1) (stepR_none htw)).symm) (vstr_eq (congrArg (fun p => p.2.1) (stepR_none htw)).symm) (vbool_eq (congrArg (fun p => p.2.2) (stepR_none htw)).symm), Ext.of_below hB⟩
    · skip
      try simp only [decide_eq_true_eq, decide_eq_false_iff_not, Bool.not_eq_true', Bool.not_eq_false', Bool.not_not, Bool.not_true, Bool.not_false, Bool.not_eq_true, Bool.not_eq_false, Int.not_lt, Int.not_le, Bool.and_eq_true, Bool.or_eq_true, Bool.and_eq_false_iff, Bool.or_eq_false_iff] at hc6
      have hsl : 1 ≤ sent.length := List.length_pos_iff.2 hc6
      refine r_skip ?_
      refine r_region' ?_
      refine l_q (q_move (v := .string _) rfl rfl) ?_
      refine l_q (q_slice_str_hi Try.underlying9 rfl rfl (by omega) rfl) ?_
      refine l_q (q_assign (v := .string _) rfl rfl) ?_
      refine l_nil ?_
      refine r_forget [(1, .string _), (2, .string _), (9, .int _ _), (10, .string _)] ⟨rfl, rfl, rfl, rfl, trivial⟩ (fun e8 => ?_)
      refine r_inBlock ?_
      refine r_seq ?_
      refine r_seq ?_
      have htw : stepTW kind sent = some (1, (sent).take 1) := by unfold stepTW; simp_all <;> omega
      refine r_region' ?_
      refine l_q (q_move (v := .string _) rfl rfl) ?_
      refine l_q (q_len_str rfl Try.underlying9 rfl rfl) ?_
      refine l_q (q_move (v := .string _) rfl rfl) ?_
      refine l_q (q_len_str rfl Try.underlying9 rfl rfl) ?_
      refine l_q (q_lss rfl rfl rfl) ?_
      refine l_q (q_move (v := .bool _) rfl rfl) ?_
      refine l_part 62 rfl (fun hc9 => ?_) (fun hc9 => ?_)
      · skip
        try simp only [decide_eq_true_eq, decide_eq_false_iff_not, Bool.not_eq_true', Bool.not_eq_false', Bool.not_not, Bool.not_true, Bool.not_false, Bool.not_eq_true, Bool.not_eq_false, Int.not_lt, Int.not_le, Bool.and_eq_true, Bool.or_eq_true, Bool.and_eq_false_iff, Bool.or_eq_false_iff] at hc9
        have hpf := pfx_short hc9
        refine l_q (q_skip rfl) ?_
        refine l_q (q_skip rfl) ?_
        refine l_q (q_skip rfl) ?_
        refine l_q (q_skip rfl) ?_
        refine l_q (q_skip rfl) ?_
        refine l_q (q_skip rfl) ?_
        refine l_q (q_pick_t (v := .bool _) rfl rfl rfl) ?_
        refine l_nil ?_
        refine r_forget [(1, .string _), (2, .string _), (9, .int _ _), (10, .string _), (69, .bool _)] ⟨rfl, rfl, rfl, rfl, rfl, trivial⟩ (fun e10 => ?_)
        refine r_cond_t rfl ?_
        refine r_seq ?_
        refine r_region' ?_
        refine l_q (q_assign (v := .string _) rfl rfl) ?_
        refine l_q (q_assign (v := .string _) rfl rfl) ?_
        refine l_q (q_assign (v := .bool _) rfl rfl) ?_
        refine l_nil ?_
        refine r_forget [(6, .string _), (7, .string _), (8, .bool _)] ⟨rfl, rfl, rfl, trivial⟩ (fun e11 => ?_)
        refine r_ret_ (vs := [.string _, .string _, .bool _]) rfl Try.func52 rfl (.nil _) ⟨rfl, rfl, rfl, trivial⟩ ?_
        exact ⟨tup3 (vstr_eq (congrArg (fun p => p.1) (stepR_no htw hpf)).symm) (vstr_eq (congrArg (fun p => p.2.1) (stepR_no htw hpf)).symm) (vbool_eq (congrArg (fun p => p.2.2) (stepR_no htw hpf)).symm), Ext.of_below hB⟩
      · skip
        try simp only [decide_eq_true_eq, decide_eq_false_iff_not, Bool.not_eq_true', Bool.not_eq_false', Bool.not_not, Bool.not_true, Bool.not_false, Bool.not_eq_true, Bool.not_eq_false, Int.not_lt, Int.not_le, Bool.and_eq_true, Bool.or_eq_true, Bool.and_eq_false_iff, Bool.or_eq_false_iff] at hc9
        refine l_q (q_move (v := .string _) rfl rfl) ?_
        refine l_q (q_move (v := .string _) rfl rfl) ?_
        refine l_q (q_len_str rfl Try.underlying9 rfl rfl) ?_
        refine l_q (q_slice_str_hi Try.underlying9 rfl rfl (by omega) rfl) ?_
        refine l_q (q_move (v := .string _) rfl rfl) ?_
        refine l_q (q_neq_str rfl rfl rfl) ?_
        refine l_q (q_pick_f (v := .bool _) rfl rfl rfl) ?_
        refine l_nil ?_
        refine r_forget [(1, .string _), (2, .string _), (9, .int _ _), (10, .string _), (69, .bool _)] ⟨rfl, rfl, rfl, rfl, rfl, trivial⟩ (fun e12 => ?_)
        refine r_cond rfl (fun hc13 => ?_) (fun hc13 => ?_)
        · skip
          try simp only [decide_eq_true_eq, decide_eq_false_iff_not, Bool.not_eq_true', Bool.not_eq_false', Bool.not_not, Bool.not_true, Bool.not_false, Bool.not_eq_true, Bool.not_eq_false, Int.not_lt, Int.not_le, Bool.and_eq_true, Bool.or_eq_true, Bool.and_eq_false_iff, Bool.or_eq_false_iff] at hc13
          have hpf := pfx_no hc13
          refine r_seq ?_
          refine r_region' ?_
          refine l_q (q_assign (v := .string _) rfl rfl) ?_
          refine l_q (q_assign (v := .string _) rfl rfl) ?_
          refine l_q (q_assign (v := .bool _) rfl rfl) ?_
          refine l_nil ?_
          refine r_forget [(6, .string _), (7, .string _), (8, .bool _)] ⟨rfl, rfl, rfl, trivial⟩ (fun e14 => ?_)
          refine r_ret_ (vs := [.string _, .string _, .bool _]) rfl Try.func52 rfl (.nil _) ⟨rfl, rfl, rfl, trivial⟩ ?_
          exact ⟨tup3 (vstr_eq (congrArg (fun p => p.1) (stepR_no htw hpf)).symm) (vstr_eq (congrArg (fun p => p.2.1) (stepR_no htw hpf)).symm) (vbool_eq (congrArg (fun p => p.2.2) (stepR_no htw hpf)).symm), Ext.of_below hB⟩
        · skip
          try simp only [decide_eq_true_eq, decide_eq_false_iff_not, Bool.not_eq_true', Bool.not_eq_false', Bool.not_not, Bool.not_true, Bool.not_false, Bool.not_eq_true, Bool.not_eq_false, Int.not_lt, Int.not_le, Bool.and_eq_true, Bool.or_eq_true, Bool.and_eq_false_iff, Bool.or_eq_false_iff] at hc13
          have hpf := pfx_yes hc13
          refine r_skip ?_
          refine r_seq ?_
          refine r_draw ext_refl' ext_trans' [0, 1, 2, 3, 4, 5, 6, 7, 8, 9] [] 2 (by kernel_rfl) (by kernel_rfl) ?_
          intro w15 _ hE15
          replace hB := below_ext hB hE15 hsz
          replace hsz := Nat.le_trans hsz hE15.size
          refine m_q rfl rfl (fun w' hC' => q_move (v := .string _) rfl rfl) ?_
          refine m_q rfl rfl (fun w' hC' => q_move (v := .int _ _) rfl rfl) ?_
          refine m_q rfl rfl (fun w' hC' => q_slice_str_lo Try.underlying9 rfl rfl (by omega) rfl) ?_
          refine m_q rfl rfl (fun w' hC' => q_move (v := .string _) rfl rfl) ?_
          refine m_q rfl rfl (fun w' hC' => q_move (v := .string _) rfl rfl) ?_
          refine m_q rfl rfl (fun w' hC' => q_len_str rfl Try.underlying9 rfl rfl) ?_
          refine m_q rfl rfl (fun w' hC' => q_slice_str_lo Try.underlying9 rfl rfl (by omega) rfl) ?_
          refine m_q rfl rfl (fun w' hC' => q_assign (v := .string _) rfl rfl) ?_
          refine m_q rfl rfl (fun w' hC' => q_assign (v := .string _) rfl rfl) ?_
          refine m_q rfl rfl (fun w' hC' => q_assign (v := .bool _) rfl rfl) ?_
          refine m_nil ?_
          refine r_forget [(6, .string _), (7, .string _), (8, .bool _)] ⟨rfl, rfl, rfl, trivial⟩ (fun e16 => ?_)
          refine r_ret_ (vs := [.string _, .string _, .bool _]) rfl Try.func52 rfl (.nil _) ⟨rfl, rfl, rfl, trivial⟩ ?_
          exact ⟨tup3 (vstr_eq (congrArg (fun p => p.1) (stepR_yes htw hpf)).symm) (vstr_eq (congrArg (fun p => p.2.1) (stepR_yes htw hpf)).symm) (vbool_eq (congrArg (fun p => p.2.2) (stepR_yes htw hpf)).symm), Ext.of_below hB⟩
  · skip
    try simp only [decide_eq_true_eq, decide_eq_false_iff_not, Bool.not_eq_true', Bool.not_eq_false', Bool.not_not, Bool.not_true, Bool.not_false, Bool.not_eq_true, Bool.not_eq_false, Int.not_lt, Int.not_le, Bool.and_eq_true, Bool.or_eq_true, Bool.and_eq_false_iff, Bool.or_eq_false_iff] at hc4
    refine r_seq ?_
    refine r_region' ?_
    refine l_q (q_eql rfl rfl rfl) ?_
    refine l_q (q_assign (v := .bool _) rfl rfl) ?_
    refine l_nil ?_
    refine r_forget [(1, .string _), (2, .string _), (9, .int _ _), (10, .string _), (11, .int _ _), (18, .bool _)] ⟨rfl, rfl, rfl, rfl, rfl, rfl, trivial⟩ (fun e17 => ?_)
    refine r_cond rfl (fun hc18 => ?_) (fun hc18 => ?_)
    · skip
      try simp only [decide_eq_true_eq, decide_eq_false_iff_not, Bool.not_eq_true', Bool.not_eq_false', Bool.not_not, Bool.not_true, Bool.not_false, Bool.not_eq_true, Bool.not_eq_false, Int.not_lt, Int.not_le, Bool.and_eq_true, Bool.or_eq_true, Bool.and_eq_false_iff, Bool.or_eq_false_iff] at hc18
      refine r_seq ?_
      refine r_region' ?_
      refine l_q (q_move (v := .string _) rfl rfl) ?_
      refine l_q (q_eql_str rfl rfl rfl) ?_
      refine l_q (q_move (v := .bool _) rfl rfl) ?_
      refine l_part 22 rfl (fun hc19 => ?_) (fun hc19 => ?_)
      · skip
        try simp only [decide_eq_true_eq, decide_eq_false_iff_not, Bool.not_eq_true', Bool.not_eq_false', Bool.not_not, Bool.not_true, Bool.not_false, Bool.not_eq_true, Bool.not_eq_false, Int.not_lt, Int.not_le, Bool.and_eq_true, Bool.or_eq_true, Bool.and_eq_false_iff, Bool.or_eq_false_iff] at hc19
        refine l_q (q_skip rfl) ?_
        refine l_q (q_skip rfl) ?_
        refine l_q (q_skip rfl) ?_
        refine l_q (q_pick_t (v := .bool _) rfl rfl rfl) ?_
        refine l_nil ?_
        refine r_forget [(1, .string _), (2, .string _), (9, .int _ _), (10, .string _), (26, .bool _)] ⟨rfl, rfl, rfl, rfl, rfl, trivial⟩ (fun e20 => ?_)
        refine r_cond_t rfl ?_
        refine r_seq ?_
        refine r_region' ?_
        refine l_q (q_assign (v := .string _) rfl rfl) ?_
        refine l_q (q_assign (v := .string _) rfl rfl) ?_
        refine l_q (q_assign (v := .bool _) rfl rfl) ?_
        refine l_nil ?_
        refine r_forget [(6, .string _), (7, .string _), (8, .bool _)] ⟨rfl, rfl, rfl, trivial⟩ (fun e21 => ?_)
        refine r_ret_ (vs := [.string _, .string _, .bool _]) rfl Try.func52 rfl (.nil _) ⟨rfl, rfl, rfl, trivial⟩ ?_
        have htw : stepTW kind sent = none := by unfold stepTW; simp_all <;> (first | omega | (intro h; omega))
        exact ⟨tup3 (vstr_eq (congrArg (fun p => p.1) (stepR_none htw)).symm) (vstr_eq (congrArg (fun p => p.2.1) (stepR_none htw)).symm) (vbool_eq (congrArg (fun p => p.2.2) (stepR_none htw)).symm), Ext.of_below hB⟩
      · skip
        try simp only [decide_eq_true_eq, decide_eq_false_iff_not, Bool.not_eq_true', Bool.not_eq_false', Bool.not_not, Bool.not_true, Bool.not_false, Bool.not_eq_true, Bool.not_eq_false, Int.not_lt, Int.not_le, Bool.and_eq_true, Bool.or_eq_true, Bool.and_eq_false_iff, Bool.or_eq_false_iff] at hc19
        have hsl : 1 ≤ sent.length := List.length_pos_iff.2 hc19
        refine l_q (q_move (v := .string _) rfl rfl) ?_
        refine l_q (q_index_str (c := (sent).getD 0 0) Try.underlying9 rfl rfl (by omega) (getD_some (by omega)) rfl) ?_
        refine l_q (q_eql rfl rfl rfl) ?_
        refine l_q (q_pick_f (v := .bool _) rfl rfl rfl) ?_
        refine l_nil ?_
        refine r_forget [(1, .string _), (2, .string _), (9, .int _ _), (10, .string _), (26, .bool _)] ⟨rfl, rfl, rfl, rfl, rfl, trivial⟩ (fun e22 => ?_)
        refine r_cond rfl (fun hc23 => ?_) (fun hc23 => ?_)
        · skip
          try simp only [decide_eq_true_eq, decide_eq_false_iff_not, Bool.not_eq_true', Bool.not_eq_false', Bool.not_not, Bool.not_true, Bool.not_false, Bool.not_eq_true, Bool.not_eq_false, Int.not_lt, Int.not_le, Bool.and_eq_true, Bool.or_eq_true, Bool.and_eq_false_iff, Bool.or_eq_false_iff] at hc23
          have hb := u8_eq (n := 32) hc23
          refine r_seq ?_
          refine r_region' ?_
          refine l_q (q_assign (v := .string _) rfl rfl) ?_
          refine l_q (q_assign (v := .string _) rfl rfl) ?_
          refine l_q (q_assign (v := .bool _) rfl rfl) ?_
          refine l_nil ?_
          refine r_forget [(6, .string _), (7, .string _), (8, .bool _)] ⟨rfl, rfl, rfl, trivial⟩ (fun e24 => ?_)
          refine r_ret_ (vs := [.string _, .string _, .bool _]) rfl Try.func52 rfl (.nil _) ⟨rfl, rfl, rfl, trivial⟩ ?_
          have htw : stepTW kind sent = none := by unfold stepTW; simp_all <;> (first | omega | (intro h; omega))
          exact ⟨tup3 (vstr_eq (congrArg (fun p => p.1) (stepR_none htw)).symm) (vstr_eq (congrArg (fun p => p.2.1) (stepR_none htw)).symm) (vbool_eq (congrArg (fun p => p.2.2) (stepR_none htw)).symm), Ext.of_below hB⟩
        · skip
          try simp only [decide_eq_true_eq, decide_eq_false_iff_not, Bool.not_eq_true', Bool.not_eq_false', Bool.not_not, Bool.not_true, Bool.not_false, Bool.not_eq_true, Bool.not_eq_false, Int.not_lt, Int.not_le, Bool.and_eq_true, Bool.or_eq_true, Bool.and_eq_false_iff, Bool.or_eq_false_iff] at hc23
          have hb := u8_ne (n := 32) hc23
          refine r_skip ?_
          refine r_inBlock ?_
          refine r_seq ?_
          refine r_seq ?_
          have htw : stepTW kind sent = some (1, []) := by unfold stepTW; simp_all <;> omega
          refine r_region' ?_
          refine l_q (q_move (v := .string _) rfl rfl) ?_
          refine l_q (q_len_str rfl Try.underlying9 rfl rfl) ?_
          refine l_q (q_move (v := .string _) rfl rfl) ?_
          refine l_q (q_len_str rfl Try.underlying9 rfl rfl) ?_
          refine l_q (q_lss rfl rfl rfl) ?_
          refine l_q (q_move (v := .bool _) rfl rfl) ?_
          refine l_part 62 rfl (fun hc25 => ?_) (fun hc25 => ?_)
          · skip
            try simp only [decide_eq_true_eq, decide_eq_false_iff_not, Bool.not_eq_true', Bool.not_eq_false', Bool.not_not, Bool.not_true, Bool.not_false, Bool.not_eq_true, Bool.not_eq_false, Int.not_lt, Int.not_le, Bool.and_eq_true, Bool.or_eq_true, Bool.and_eq_false_iff, Bool.or_eq_false_iff] at hc25
            have hpf := pfx_short hc25
            refine l_q (q_skip rfl) ?_
            refine l_q (q_skip rfl) ?_
            refine l_q (q_skip rfl) ?_
            refine l_q (q_skip rfl) ?_
            refine l_q (q_skip rfl) ?_
            refine l_q (q_skip rfl) ?_
            refine l_q (q_pick_t (v := .bool _) rfl rfl rfl) ?_
            refine l_nil ?_
            refine r_forget [(1, .string _), (2, .string _), (9, .int _ _), (10, .string _), (69, .bool _)] ⟨rfl, rfl, rfl, rfl, rfl, trivial⟩ (fun e26 => ?_)
            refine r_cond_t rfl ?_
            refine r_seq ?_
            refine r_region' ?_
            refine l_q (q_assign (v := .string _) rfl rfl) ?_
            refine l_q (q_assign (v := .string _) rfl rfl) ?_
            refine l_q (q_assign (v := .bool _) rfl rfl) ?_
            refine l_nil ?_
            refine r_forget [(6, .string _), (7, .string _), (8, .bool _)] ⟨rfl, rfl, rfl, trivial⟩ (fun e27 => ?_)
            refine r_ret_ (vs := [.string _, .string _, .bool _]) rfl Try.func52 rfl (.nil _) ⟨rfl, rfl, rfl, trivial⟩ ?_
            exact ⟨tup3 (vstr_eq (congrArg (fun p => p.1) (stepR_no htw hpf)).symm) (vstr_eq (congrArg (fun p => p.2.1) (stepR_no htw hpf)).symm) (vbool_eq (congrArg (fun p => p.2.2) (stepR_no htw hpf)).symm), Ext.of_below hB⟩
          · skip
            try simp only [decide_eq_true_eq, decide_eq_false_iff_not, Bool.not_eq_true', Bool.not_eq_false', Bool.not_not, Bool.not_true, Bool.not_false, Bool.not_eq_true, Bool.not_eq_false, Int.not_lt, Int.not_le, Bool.and_eq_true, Bool.or_eq_true, Bool.and_eq_false_iff, Bool.or_eq_false_iff] at hc25
            refine l_q (q_move (v := .string _) rfl rfl) ?_
            refine l_q (q_move (v := .string _) rfl rfl) ?_
            refine l_q (q_len_str rfl Try.underlying9 rfl rfl) ?_
            refine l_q (q_slice_str_hi Try.underlying9 rfl rfl (by omega) rfl) ?_
            refine l_q (q_move (v := .string _) rfl rfl) ?_
            refine l_q (q_neq_str rfl rfl rfl) ?_
            refine l_q (q_pick_f (v := .bool _) rfl rfl rfl) ?_
            refine l_nil ?_
            refine r_forget [(1, .string _), (2, .string _), (9, .int _ _), (10, .string _), (69, .bool _)] ⟨rfl, rfl, rfl, rfl, rfl, trivial⟩ (fun e28 => ?_)
            refine r_cond rfl (fun hc29 => ?_) (fun hc29 => ?_)
            · skip
              try simp only [decide_eq_true_eq, decide_eq_false_iff_not, Bool.not_eq_true', Bool.not_eq_false', Bool.not_not, Bool.not_true, Bool.not_false, Bool.not_eq_true, Bool.not_eq_false, Int.not_lt, Int.not_le, Bool.and_eq_true, Bool.or_eq_true, Bool.and_eq_false_iff, Bool.or_eq_false_iff] at hc29
              have hpf := pfx_no hc29
              refine r_seq ?_
              refine r_region' ?_
              refine l_q (q_assign (v := .string _) rfl rfl) ?_
              refine l_q (q_assign (v := .string _) rfl rfl) ?_
              refine l_q (q_assign (v := .bool _) rfl rfl) ?_
              refine l_nil ?_
              refine r_forget [(6, .string _), (7, .string _), (8, .bool _)] ⟨rfl, rfl, rfl, trivial⟩ (fun e30 => ?_)
              refine r_ret_ (vs := [.string _, .string _, .bool _]) rfl Try.func52 rfl (.nil _) ⟨rfl, rfl, rfl, trivial⟩ ?_
              exact ⟨tup3 (vstr_eq (congrArg (fun p => p.1) (stepR_no htw hpf)).symm) (vstr_eq (congrArg (fun p => p.2.1) (stepR_no htw hpf)).symm) (vbool_eq (congrArg (fun p => p.2.2) (stepR_no htw hpf)).symm), Ext.of_below hB⟩
            · skip
              try simp only [decide_eq_true_eq, decide_eq_false_iff_not, Bool.not_eq_true', Bool.not_eq_false', Bool.not_not, Bool.not_true, Bool.not_false, Bool.not_eq_true, Bool.not_eq_false, Int.not_lt, Int.not_le, Bool.and_eq_true, Bool.or_eq_true, Bool.and_eq_false_iff, Bool.or_eq_false_iff] at hc29
              have hpf := pfx_yes hc29
              refine r_skip ?_
              refine r_seq ?_
              refine r_draw ext_refl' ext_trans' [0, 1, 2, 3, 4, 5, 6, 7, 8, 9] [] 2 (by kernel_rfl) (by kernel_rfl) ?_
              intro w31 _ hE31
              replace hB := below_ext hB hE31 hsz
              replace hsz := Nat.le_trans hsz hE31.size
              refine m_q rfl rfl (fun w' hC' => q_move (v := .string _) rfl rfl) ?_
              refine m_q rfl rfl (fun w' hC' => q_move (v := .int _ _) rfl rfl) ?_
              refine m_q rfl rfl (fun w' hC' => q_slice_str_lo Try.underlying9 rfl rfl (by omega) rfl) ?_
              refine m_q rfl rfl (fun w' hC' => q_move (v := .string _) rfl rfl) ?_
              refine m_q rfl rfl (fun w' hC' => q_move (v := .string _) rfl rfl) ?_
              refine m_q rfl rfl (fun w' hC' => q_len_str rfl Try.underlying9 rfl rfl) ?_
              refine m_q rfl rfl (fun w' hC' => q_slice_str_lo Try.underlying9 rfl rfl (by omega) rfl) ?_
              refine m_q rfl rfl (fun w' hC' => q_assign (v := .string _) rfl rfl) ?_
              refine m_q rfl rfl (fun w' hC' => q_assign (v := .string _) rfl rfl) ?_
              refine m_q rfl rfl (fun w' hC' => q_assign (v := .bool _) rfl rfl) ?_
              refine m_nil ?_
              refine r_forget [(6, .string _), (7, .string _), (8, .bool _)] ⟨rfl, rfl, rfl, trivial⟩ (fun e32 => ?_)
              refine r_ret_ (vs := [.string _, .string _, .bool _]) rfl Try.func52 rfl (.nil _) ⟨rfl, rfl, rfl, trivial⟩ ?_
              exact ⟨tup3 (vstr_eq (congrArg (fun p => p.1) (stepR_yes htw hpf)).symm) (vstr_eq (congrArg (fun p => p.2.1) (stepR_yes htw hpf)).symm) (vbool_eq (congrArg (fun p => p.2.2) (stepR_yes htw hpf)).symm), Ext.of_below hB⟩
    · skip
      try simp only [decide_eq_true_eq, decide_eq_false_iff_not, Bool.not_eq_true', Bool.not_eq_false', Bool.not_not, Bool.not_true, Bool.not_false, Bool.not_eq_true, Bool.not_eq_false, Int.not_lt, Int.not_le, Bool.and_eq_true, Bool.or_eq_true, Bool.and_eq_false_iff, Bool.or_eq_false_iff] at hc18
      refine r_seq ?_
      refine r_region' ?_
      refine l_q (q_eql rfl rfl rfl) ?_
      refine l_q (q_assign (v := .bool _) rfl rfl) ?_
      refine l_nil ?_
      refine r_forget [(1, .string _), (2, .string _), (9, .int _ _), (10, .string _), (11, .int _ _), (27, .bool _)] ⟨rfl, rfl, rfl, rfl, rfl, rfl, trivial⟩ (fun e33 => ?_)
      refine r_cond rfl (fun hc34 => ?_) (fun hc34 => ?_)
      · skip
        try simp only [decide_eq_true_eq, decide_eq_false_iff_not, Bool.not_eq_true', Bool.not_eq_false', Bool.not_not, Bool.not_true, Bool.not_false, Bool.not_eq_true, Bool.not_eq_false, Int.not_lt, Int.not_le, Bool.and_eq_true, Bool.or_eq_true, Bool.and_eq_false_iff, Bool.or_eq_false_iff] at hc34
        refine r_seq ?_
        refine r_seq ?_
        refine r_region' ?_
        refine l_q (q_move (v := .string _) rfl rfl) ?_
        refine l_q (q_eql_str rfl rfl rfl) ?_
        refine l_q (q_move (v := .bool _) rfl rfl) ?_
        refine l_part 31 rfl (fun hc35 => ?_) (fun hc35 => ?_)
        · skip
          try simp only [decide_eq_true_eq, decide_eq_false_iff_not, Bool.not_eq_true', Bool.not_eq_false', Bool.not_not, Bool.not_true, Bool.not_false, Bool.not_eq_true, Bool.not_eq_false, Int.not_lt, Int.not_le, Bool.and_eq_true, Bool.or_eq_true, Bool.and_eq_false_iff, Bool.or_eq_false_iff] at hc35
          refine l_q (q_skip rfl) ?_
          refine l_q (q_skip rfl) ?_
          refine l_q (q_skip rfl) ?_
          refine l_q (q_pick_t (v := .bool _) rfl rfl rfl) ?_
          refine l_nil ?_
          refine r_forget [(1, .string _), (2, .string _), (9, .int _ _), (35, .bool _)] ⟨rfl, rfl, rfl, rfl, trivial⟩ (fun e36 => ?_)
          refine r_cond_t rfl ?_
          refine r_seq ?_
          refine r_region' ?_
          refine l_q (q_assign (v := .string _) rfl rfl) ?_
          refine l_q (q_assign (v := .string _) rfl rfl) ?_
          refine l_q (q_assign (v := .bool _) rfl rfl) ?_
          refine l_nil ?_
          refine r_forget [(6, .string _), (7, .string _), (8, .bool _)] ⟨rfl, rfl, rfl, trivial⟩ (fun e37 => ?_)
          refine r_ret_ (vs := [.string _, .string _, .bool _]) rfl Try.func52 rfl (.nil _) ⟨rfl, rfl, rfl, trivial⟩ ?_
          have htw : stepTW kind sent = none := by unfold stepTW; simp_all <;> (first | omega | (intro h; omega))
          exact ⟨tup3 (vstr_eq (congrArg (fun p => p.1) (stepR_none htw)).symm) (vstr_eq (congrArg (fun p => p.2.1) (stepR_none htw)).symm) (vbool_eq (congrArg (fun p => p.2.2) (stepR_none htw)).symm), Ext.of_below hB⟩
        · skip
          try simp only [decide_eq_true_eq, decide_eq_false_iff_not, Bool.not_eq_true', Bool.not_eq_false', Bool.not_not, Bool.not_true, Bool.not_false, Bool.not_eq_true, Bool.not_eq_false, Int.not_lt, Int.not_le, Bool.and_eq_true, Bool.or_eq_true, Bool.and_eq_false_iff, Bool.or_eq_false_iff] at hc35
          have hsl : 1 ≤ sent.length := List.length_pos_iff.2 hc35
          refine l_q (q_move (v := .string _) rfl rfl) ?_
          refine l_q (q_index_str (c := (sent).getD 0 0) Try.underlying9 rfl rfl (by omega) (getD_some (by omega)) rfl) ?_
          refine l_q (q_neq rfl rfl rfl) ?_
          refine l_q (q_pick_f (v := .bool _) rfl rfl rfl) ?_
          refine l_nil ?_
          refine r_forget [(1, .string _), (2, .string _), (9, .int _ _), (35, .bool _)] ⟨rfl, rfl, rfl, rfl, trivial⟩ (fun e38 => ?_)
          refine r_cond rfl (fun hc39 => ?_) (fun hc39 => ?_)
          · skip
            try simp only [decide_eq_true_eq, decide_eq_false_iff_not, Bool.not_eq_true', Bool.not_eq_false', Bool.not_not, Bool.not_true, Bool.not_false, Bool.not_eq_true, Bool.not_eq_false, Int.not_lt, Int.not_le, Bool.and_eq_true, Bool.or_eq_true, Bool.and_eq_false_iff, Bool.or_eq_false_iff] at hc39
            have hb := u8_ne (n := 45) hc39
            refine r_seq ?_
            refine r_region' ?_
            refine l_q (q_assign (v := .string _) rfl rfl) ?_
            refine l_q (q_assign (v := .string _) rfl rfl) ?_
            refine l_q (q_assign (v := .bool _) rfl rfl) ?_
            refine l_nil ?_
            refine r_forget [(6, .string _), (7, .string _), (8, .bool _)] ⟨rfl, rfl, rfl, trivial⟩ (fun e40 => ?_)
            refine r_ret_ (vs := [.string _, .string _, .bool _]) rfl Try.func52 rfl (.nil _) ⟨rfl, rfl, rfl, trivial⟩ ?_
            have htw : stepTW kind sent = none := by unfold stepTW; simp_all <;> (first | omega | (intro h; omega))
            exact ⟨tup3 (vstr_eq (congrArg (fun p => p.1) (stepR_none htw)).symm) (vstr_eq (congrArg (fun p => p.2.1) (stepR_none htw)).symm) (vbool_eq (congrArg (fun p => p.2.2) (stepR_none htw)).symm), Ext.of_below hB⟩
          · skip
            try simp only [decide_eq_true_eq, decide_eq_false_iff_not, Bool.not_eq_true', Bool.not_eq_false', Bool.not_not, Bool.not_true, Bool.not_false, Bool.not_eq_true, Bool.not_eq_false, Int.not_lt, Int.not_le, Bool.and_eq_true, Bool.or_eq_true, Bool.and_eq_false_iff, Bool.or_eq_false_iff] at hc39
            have hb := u8_eq (n := 45) hc39
            refine r_skip ?_
            refine r_region' ?_
            refine l_q (q_assign (v := .string _) rfl rfl) ?_
            refine l_nil ?_
            refine r_forget [(1, .string _), (2, .string _), (9, .int _ _), (10, .string _)] ⟨rfl, rfl, rfl, rfl, trivial⟩ (fun e41 => ?_)
            refine r_inBlock ?_
            refine r_seq ?_
            refine r_seq ?_
            have htw : stepTW kind sent = some (1, [46, 46]) := by unfold stepTW; simp_all <;> omega
            refine r_region' ?_
            refine l_q (q_move (v := .string _) rfl rfl) ?_
            refine l_q (q_len_str rfl Try.underlying9 rfl rfl) ?_
            refine l_q (q_move (v := .string _) rfl rfl) ?_
            refine l_q (q_len_str rfl Try.underlying9 rfl rfl) ?_
            refine l_q (q_lss rfl rfl rfl) ?_
            refine l_q (q_move (v := .bool _) rfl rfl) ?_
            refine l_part 62 rfl (fun hc42 => ?_) (fun hc42 => ?_)
            · skip
              try simp only [decide_eq_true_eq, decide_eq_false_iff_not, Bool.not_eq_true', Bool.not_eq_false', Bool.not_not, Bool.not_true, Bool.not_false, Bool.not_eq_true, Bool.not_eq_false, Int.not_lt, Int.not_le, Bool.and_eq_true, Bool.or_eq_true, Bool.and_eq_false_iff, Bool.or_eq_false_iff] at hc42
              have hpf := pfx_short hc42
              refine l_q (q_skip rfl) ?_
              refine l_q (q_skip rfl) ?_
              refine l_q (q_skip rfl) ?_
              refine l_q (q_skip rfl) ?_
              refine l_q (q_skip rfl) ?_
              refine l_q (q_skip rfl) ?_
              refine l_q (q_pick_t (v := .bool _) rfl rfl rfl) ?_
              refine l_nil ?_
              refine r_forget [(1, .string _), (2, .string _), (9, .int _ _), (10, .string _), (69, .bool _)] ⟨rfl, rfl, rfl, rfl, rfl, trivial⟩ (fun e43 => ?_)
              refine r_cond_t rfl ?_
              refine r_seq ?_
              refine r_region' ?_
              refine l_q (q_assign (v := .string _) rfl rfl) ?_
              refine l_q (q_assign (v := .string _) rfl rfl) ?_
              refine l_q (q_assign (v := .bool _) rfl rfl) ?_
              refine l_nil ?_
              refine r_forget [(6, .string _), (7, .string _), (8, .bool _)] ⟨rfl, rfl, rfl, trivial⟩ (fun e44 => ?_)
              refine r_ret_ (vs := [.string _, .string _, .bool _]) rfl Try.func52 rfl (.nil _) ⟨rfl, rfl, rfl, trivial⟩ ?_
              exact ⟨tup3 (vstr_eq (congrArg (fun p => p.1) (stepR_no htw hpf)).symm) (vstr_eq (congrArg (fun p => p.2.1) (stepR_no htw hpf)).symm) (vbool_eq (congrArg (fun p => p.2.2) (stepR_no htw hpf)).symm), Ext.of_below hB⟩
            · skip
              try simp only [decide_eq_true_eq, decide_eq_false_iff_not, Bool.not_eq_true', Bool.not_eq_false', Bool.not_not, Bool.not_true, Bool.not_false, Bool.not_eq_true, Bool.not_eq_false, Int.not_lt, Int.not_le, Bool.and_eq_true, Bool.or_eq_true, Bool.and_eq_false_iff, Bool.or_eq_false_iff] at hc42
              refine l_q (q_move (v := .string _) rfl rfl) ?_
              refine l_q (q_move (v := .string _) rfl rfl) ?_
              refine l_q (q_len_str rfl Try.underlying9 rfl rfl) ?_
              refine l_q (q_slice_str_hi Try.underlying9 rfl rfl (by omega) rfl) ?_
              refine l_q (q_move (v := .string _) rfl rfl) ?_
              refine l_q (q_neq_str rfl rfl rfl) ?_
              refine l_q (q_pick_f (v := .bool _) rfl rfl rfl) ?_
              refine l_nil ?_
              refine r_forget [(1, .string _), (2, .string _), (9, .int _ _), (10, .string _), (69, .bool _)] ⟨rfl, rfl, rfl, rfl, rfl, trivial⟩ (fun e45 => ?_)
              refine r_cond rfl (fun hc46 => ?_) (fun hc46 => ?_)
              · skip
                try simp only [decide_eq_true_eq, decide_eq_false_iff_not, Bool.not_eq_true', Bool.not_eq_false', Bool.not_not, Bool.not_true, Bool.not_false, Bool.not_eq_true, Bool.not_eq_false, Int.not_lt, Int.not_le, Bool.and_eq_true, Bool.or_eq_true, Bool.and_eq_false_iff, Bool.or_eq_false_iff] at hc46
                have hpf := pfx_no hc46
                refine r_seq ?_
                refine r_region' ?_
                refine l_q (q_assign (v := .string _) rfl rfl) ?_
                refine l_q (q_assign (v := .string _) rfl rfl) ?_
                refine l_q (q_assign (v := .bool _) rfl rfl) ?_
                refine l_nil ?_
                refine r_forget [(6, .string _), (7, .string _), (8, .bool _)] ⟨rfl, rfl, rfl, trivial⟩ (fun e47 => ?_)
                refine r_ret_ (vs := [.string _, .string _, .bool _]) rfl Try.func52 rfl (.nil _) ⟨rfl, rfl, rfl, trivial⟩ ?_
                exact ⟨tup3 (vstr_eq (congrArg (fun p => p.1) (stepR_no htw hpf)).symm) (vstr_eq (congrArg (fun p => p.2.1) (stepR_no htw hpf)).symm) (vbool_eq (congrArg (fun p => p.2.2) (stepR_no htw hpf)).symm), Ext.of_below hB⟩
              · skip
                try simp only [decide_eq_true_eq, decide_eq_false_iff_not, Bool.not_eq_true', Bool.not_eq_false', Bool.not_not, Bool.not_true, Bool.not_false, Bool.not_eq_true, Bool.not_eq_false, Int.not_lt, Int.not_le, Bool.and_eq_true, Bool.or_eq_true, Bool.and_eq_false_iff, Bool.or_eq_false_iff] at hc46
                have hpf := pfx_yes hc46
                refine r_skip ?_
                refine r_seq ?_
                refine r_draw ext_refl' ext_trans' [0, 1, 2, 3, 4, 5, 6, 7, 8, 9] [] 2 (by kernel_rfl) (by kernel_rfl) ?_
                intro w48 _ hE48
                replace hB := below_ext hB hE48 hsz
                replace hsz := Nat.le_trans hsz hE48.size
                refine m_q rfl rfl (fun w' hC' => q_move (v := .string _) rfl rfl) ?_
                refine m_q rfl rfl (fun w' hC' => q_move (v := .int _ _) rfl rfl) ?_
                refine m_q rfl rfl (fun w' hC' => q_slice_str_lo Try.underlying9 rfl rfl (by omega) rfl) ?_
                refine m_q rfl rfl (fun w' hC' => q_move (v := .string _) rfl rfl) ?_
                refine m_q rfl rfl (fun w' hC' => q_move (v := .string _) rfl rfl) ?_
                refine m_q rfl rfl (fun w' hC' => q_len_str rfl Try.underlying9 rfl rfl) ?_
                refine m_q rfl rfl (fun w' hC' => q_slice_str_lo Try.underlying9 rfl rfl (by omega) rfl) ?_
                refine m_q rfl rfl (fun w' hC' => q_assign (v := .string _) rfl rfl) ?_
                refine m_q rfl rfl (fun w' hC' => q_assign (v := .string _) rfl rfl) ?_
                refine m_q rfl rfl (fun w' hC' => q_assign (v := .bool _) rfl rfl) ?_
                refine m_nil ?_
                refine r_forget [(6, .string _), (7, .string _), (8, .bool _)] ⟨rfl, rfl, rfl, trivial⟩ (fun e49 => ?_)
                refine r_ret_ (vs := [.string _, .string _, .bool _]) rfl Try.func52 rfl (.nil _) ⟨rfl, rfl, rfl, trivial⟩ ?_
                exact ⟨tup3 (vstr_eq (congrArg (fun p => p.1) (stepR_yes htw hpf)).symm) (vstr_eq (congrArg (fun p => p.2.1) (stepR_yes htw hpf)).symm) (vbool_eq (congrArg (fun p => p.2.2) (stepR_yes htw hpf)).symm), Ext.of_below hB⟩
      · skip
        try simp only [decide_eq_true_eq, decide_eq_false_iff_not, Bool.not_eq_true', Bool.not_eq_false', Bool.not_not, Bool.not_true, Bool.not_false, Bool.not_eq_true, Bool.not_eq_false, Int.not_lt, Int.not_le, Bool.and_eq_true, Bool.or_eq_true, Bool.and_eq_false_iff, Bool.or_eq_false_iff] at hc34
        refine r_seq ?_
        refine r_region' ?_
        refine l_q (q_eql rfl rfl rfl) ?_
        refine l_q (q_assign (v := .bool _) rfl rfl) ?_
        refine l_nil ?_
        refine r_forget [(1, .string _), (2, .string _), (9, .int _ _), (10, .string _), (11, .int _ _), (36, .bool _)] ⟨rfl, rfl, rfl, rfl, rfl, rfl, trivial⟩ (fun e50 => ?_)
        refine r_cond rfl (fun hc51 => ?_) (fun hc51 => ?_)
        · skip
          try simp only [decide_eq_true_eq, decide_eq_false_iff_not, Bool.not_eq_true', Bool.not_eq_false', Bool.not_not, Bool.not_true, Bool.not_false, Bool.not_eq_true, Bool.not_eq_false, Int.not_lt, Int.not_le, Bool.and_eq_true, Bool.or_eq_true, Bool.and_eq_false_iff, Bool.or_eq_false_iff] at hc51
          refine r_seq ?_
          refine r_seq ?_
          refine r_region' ?_
          refine l_q (q_move (v := .string _) rfl rfl) ?_
          refine l_q (q_len_str rfl Try.underlying9 rfl rfl) ?_
          refine l_q (q_lss rfl rfl rfl) ?_
          refine l_q (q_move (v := .bool _) rfl rfl) ?_
          refine l_part 41 rfl (fun hc52 => ?_) (fun hc52 => ?_)
          · skip
            try simp only [decide_eq_true_eq, decide_eq_false_iff_not, Bool.not_eq_true', Bool.not_eq_false', Bool.not_not, Bool.not_true, Bool.not_false, Bool.not_eq_true, Bool.not_eq_false, Int.not_lt, Int.not_le, Bool.and_eq_true, Bool.or_eq_true, Bool.and_eq_false_iff, Bool.or_eq_false_iff] at hc52
            refine l_q (q_skip rfl) ?_
            refine l_q (q_skip rfl) ?_
            refine l_q (q_skip rfl) ?_
            refine l_q (q_pick_t (v := .bool _) rfl rfl rfl) ?_
            refine l_nil ?_
            refine r_forget [(1, .string _), (2, .string _), (45, .bool _)] ⟨rfl, rfl, rfl, trivial⟩ (fun e53 => ?_)
            refine r_cond_t rfl ?_
            refine r_seq ?_
            refine r_region' ?_
            refine l_q (q_assign (v := .string _) rfl rfl) ?_
            refine l_q (q_assign (v := .string _) rfl rfl) ?_
            refine l_q (q_assign (v := .bool _) rfl rfl) ?_
            refine l_nil ?_
            refine r_forget [(6, .string _), (7, .string _), (8, .bool _)] ⟨rfl, rfl, rfl, trivial⟩ (fun e54 => ?_)
            refine r_ret_ (vs := [.string _, .string _, .bool _]) rfl Try.func52 rfl (.nil _) ⟨rfl, rfl, rfl, trivial⟩ ?_
            have htw : stepTW kind sent = none := by unfold stepTW; simp_all <;> (first | omega | (intro h; omega))
            exact ⟨tup3 (vstr_eq (congrArg (fun p => p.1) (stepR_none htw)).symm) (vstr_eq (congrArg (fun p => p.2.1) (stepR_none htw)).symm) (vbool_eq (congrArg (fun p => p.2.2) (stepR_none htw)).symm), Ext.of_below hB⟩
          · skip
            try simp only [decide_eq_true_eq, decide_eq_false_iff_not, Bool.not_eq_true', Bool.not_eq_false', Bool.not_not, Bool.not_true, Bool.not_false, Bool.not_eq_true, Bool.not_eq_false, Int.not_lt, Int.not_le, Bool.and_eq_true, Bool.or_eq_true, Bool.and_eq_false_iff, Bool.or_eq_false_iff] at hc52
            refine l_q (q_move (v := .string _) rfl rfl) ?_
            refine l_q (q_slice_str_hi Try.underlying9 rfl rfl (by omega) rfl) ?_
            refine l_q (q_neq_str rfl rfl rfl) ?_
            refine l_q (q_pick_f (v := .bool _) rfl rfl rfl) ?_
            refine l_nil ?_
            refine r_forget [(1, .string _), (2, .string _), (45, .bool _)] ⟨rfl, rfl, rfl, trivial⟩ (fun e55 => ?_)
            refine r_cond rfl (fun hc56 => ?_) (fun hc56 => ?_)
            · skip
              try simp only [decide_eq_true_eq, decide_eq_false_iff_not, Bool.not_eq_true', Bool.not_eq_false', Bool.not_not, Bool.not_true, Bool.not_false, Bool.not_eq_true, Bool.not_eq_false, Int.not_lt, Int.not_le, Bool.and_eq_true, Bool.or_eq_true, Bool.and_eq_false_iff, Bool.or_eq_false_iff] at hc56
              refine r_seq ?_
              refine r_region' ?_
              refine l_q (q_assign (v := .string _) rfl rfl) ?_
              refine l_q (q_assign (v := .string _) rfl rfl) ?_
              refine l_q (q_assign (v := .bool _) rfl rfl) ?_
              refine l_nil ?_
              refine r_forget [(6, .string _), (7, .string _), (8, .bool _)] ⟨rfl, rfl, rfl, trivial⟩ (fun e57 => ?_)
              refine r_ret_ (vs := [.string _, .string _, .bool _]) rfl Try.func52 rfl (.nil _) ⟨rfl, rfl, rfl, trivial⟩ ?_
              have htw : stepTW kind sent = none := by unfold stepTW; simp_all <;> (first | omega | (intro h; omega))
              exact ⟨tup3 (vstr_eq (congrArg (fun p => p.1) (stepR_none htw)).symm) (vstr_eq (congrArg (fun p => p.2.1) (stepR_none htw)).symm) (vbool_eq (congrArg (fun p => p.2.2) (stepR_none htw)).symm), Ext.of_below hB⟩
            · skip
              try simp only [decide_eq_true_eq, decide_eq_false_iff_not, Bool.not_eq_true', Bool.not_eq_false', Bool.not_not, Bool.not_true, Bool.not_false, Bool.not_eq_true, Bool.not_eq_false, Int.not_lt, Int.not_le, Bool.and_eq_true, Bool.or_eq_true, Bool.and_eq_false_iff, Bool.or_eq_false_iff] at hc56
              refine r_skip ?_
              refine r_region' ?_
              refine l_q (q_assign (v := .int _ _) rfl rfl) ?_
              refine l_q (q_assign (v := .string _) rfl rfl) ?_
              refine l_nil ?_
              refine r_forget [(1, .string _), (2, .string _), (9, .int _ _), (10, .string _)] ⟨rfl, rfl, rfl, rfl, trivial⟩ (fun e58 => ?_)
              refine r_inBlock ?_
              refine r_seq ?_
              refine r_seq ?_
              have htw : stepTW kind sent = some (2, [45]) := by unfold stepTW; simp_all <;> omega
              refine r_region' ?_
              refine l_q (q_move (v := .string _) rfl rfl) ?_
              refine l_q (q_len_str rfl Try.underlying9 rfl rfl) ?_
              refine l_q (q_move (v := .string _) rfl rfl) ?_
              refine l_q (q_len_str rfl Try.underlying9 rfl rfl) ?_
              refine l_q (q_lss rfl rfl rfl) ?_
              refine l_q (q_move (v := .bool _) rfl rfl) ?_
              refine l_part 62 rfl (fun hc59 => ?_) (fun hc59 => ?_)
              · skip
                try simp only [decide_eq_true_eq, decide_eq_false_iff_not, Bool.not_eq_true', Bool.not_eq_false', Bool.not_not, Bool.not_true, Bool.not_false, Bool.not_eq_true, Bool.not_eq_false, Int.not_lt, Int.not_le, Bool.and_eq_true, Bool.or_eq_true, Bool.and_eq_false_iff, Bool.or_eq_false_iff] at hc59
                have hpf := pfx_short hc59
                refine l_q (q_skip rfl) ?_
                refine l_q (q_skip rfl) ?_
                refine l_q (q_skip rfl) ?_
                refine l_q (q_skip rfl) ?_
                refine l_q (q_skip rfl) ?_
                refine l_q (q_skip rfl) ?_
                refine l_q (q_pick_t (v := .bool _) rfl rfl rfl) ?_
                refine l_nil ?_
                refine r_forget [(1, .string _), (2, .string _), (9, .int _ _), (10, .string _), (69, .bool _)] ⟨rfl, rfl, rfl, rfl, rfl, trivial⟩ (fun e60 => ?_)
                refine r_cond_t rfl ?_
                refine r_seq ?_
                refine r_region' ?_
                refine l_q (q_assign (v := .string _) rfl rfl) ?_
                refine l_q (q_assign (v := .string _) rfl rfl) ?_
                refine l_q (q_assign (v := .bool _) rfl rfl) ?_
                refine l_nil ?_
                refine r_forget [(6, .string _), (7, .string _), (8, .bool _)] ⟨rfl, rfl, rfl, trivial⟩ (fun e61 => ?_)
                refine r_ret_ (vs := [.string _, .string _, .bool _]) rfl Try.func52 rfl (.nil _) ⟨rfl, rfl, rfl, trivial⟩ ?_
                exact ⟨tup3 (vstr_eq (congrArg (fun p => p.1) (stepR_no htw hpf)).symm) (vstr_eq (congrArg (fun p => p.2.1) (stepR_no htw hpf)).symm) (vbool_eq (congrArg (fun p => p.2.2) (stepR_no htw hpf)).symm), Ext.of_below hB⟩
              · skip
                try simp only [decide_eq_true_eq, decide_eq_false_iff_not, Bool.not_eq_true', Bool.not_eq_false', Bool.not_not, Bool.not_true, Bool.not_false, Bool.not_eq_true, Bool.not_eq_false, Int.not_lt, Int.not_le, Bool.and_eq_true, Bool.or_eq_true, Bool.and_eq_false_iff, Bool.or_eq_false_iff] at hc59
                refine l_q (q_move (v := .string _) rfl rfl) ?_
                refine l_q (q_move (v := .string _) rfl rfl) ?_
                refine l_q (q_len_str rfl Try.underlying9 rfl rfl) ?_
                refine l_q (q_slice_str_hi Try.underlying9 rfl rfl (by omega) rfl) ?_
                refine l_q (q_move (v := .string _) rfl rfl) ?_
                refine l_q (q_neq_str rfl rfl rfl) ?_
                refine l_q (q_pick_f (v := .bool _) rfl rfl rfl) ?_
                refine l_nil ?_
                refine r_forget [(1, .string _), (2, .string _), (9, .int _ _), (10, .string _), (69, .bool _)] ⟨rfl, rfl, rfl, rfl, rfl, trivial⟩ (fun e62 => ?_)
                refine r_cond rfl (fun hc63 => ?_) (fun hc63 => ?_)
                · skip
                  try simp only [decide_eq_true_eq, decide_eq_false_iff_not, Bool.not_eq_true', Bool.not_eq_false', Bool.not_not, Bool.not_true, Bool.not_false, Bool.not_eq_true, Bool.not_eq_false, Int.not_lt, Int.not_le, Bool.and_eq_true, Bool.or_eq_true, Bool.and_eq_false_iff, Bool.or_eq_false_iff] at hc63
                  have hpf := pfx_no hc63
                  refine r_seq ?_
                  refine r_region' ?_
                  refine l_q (q_assign (v := .string _) rfl rfl) ?_
                  refine l_q (q_assign (v := .string _) rfl rfl) ?_
                  refine l_q (q_assign (v := .bool _) rfl rfl) ?_
                  refine l_nil ?_
                  refine r_forget [(6, .string _), (7, .string _), (8, .bool _)] ⟨rfl, rfl, rfl, trivial⟩ (fun e64 => ?_)
                  refine r_ret_ (vs := [.string _, .string _, .bool _]) rfl Try.func52 rfl (.nil _) ⟨rfl, rfl, rfl, trivial⟩ ?_
                  exact ⟨tup3 (vstr_eq (congrArg (fun p => p.1) (stepR_no htw hpf)).symm) (vstr_eq (congrArg (fun p => p.2.1) (stepR_no htw hpf)).symm) (vbool_eq (congrArg (fun p => p.2.2) (stepR_no htw hpf)).symm), Ext.of_below hB⟩
                · skip
                  try simp only [decide_eq_true_eq, decide_eq_false_iff_not, Bool.not_eq_true', Bool.not_eq_false', Bool.not_not, Bool.not_true, Bool.not_false, Bool.not_eq_true, Bool.not_eq_false, Int.not_lt, Int.not_le, Bool.and_eq_true, Bool.or_eq_true, Bool.and_eq_false_iff, Bool.or_eq_false_iff] at hc63
                  have hpf := pfx_yes hc63
                  refine r_skip ?_
                  refine r_seq ?_
                  refine r_draw ext_refl' ext_trans' [0, 1, 2, 3, 4, 5, 6, 7, 8, 9] [] 2 (by kernel_rfl) (by kernel_rfl) ?_
                  intro w65 _ hE65
                  replace hB := below_ext hB hE65 hsz
                  replace hsz := Nat.le_trans hsz hE65.size
                  refine m_q rfl rfl (fun w' hC' => q_move (v := .string _) rfl rfl) ?_
                  refine m_q rfl rfl (fun w' hC' => q_move (v := .int _ _) rfl rfl) ?_
                  refine m_q rfl rfl (fun w' hC' => q_slice_str_lo Try.underlying9 rfl rfl (by omega) rfl) ?_
                  refine m_q rfl rfl (fun w' hC' => q_move (v := .string _) rfl rfl) ?_
                  refine m_q rfl rfl (fun w' hC' => q_move (v := .string _) rfl rfl) ?_
                  refine m_q rfl rfl (fun w' hC' => q_len_str rfl Try.underlying9 rfl rfl) ?_
                  refine m_q rfl rfl (fun w' hC' => q_slice_str_lo Try.underlying9 rfl rfl (by omega) rfl) ?_
                  refine m_q rfl rfl (fun w' hC' => q_assign (v := .string _) rfl rfl) ?_
                  refine m_q rfl rfl (fun w' hC' => q_assign (v := .string _) rfl rfl) ?_
                  refine m_q rfl rfl (fun w' hC' => q_assign (v := .bool _) rfl rfl) ?_
                  refine m_nil ?_
                  refine r_forget [(6, .string _), (7, .string _), (8, .bool _)] ⟨rfl, rfl, rfl, trivial⟩ (fun e66 => ?_)
                  refine r_ret_ (vs := [.string _, .string _, .bool _]) rfl Try.func52 rfl (.nil _) ⟨rfl, rfl, rfl, trivial⟩ ?_
                  exact ⟨tup3 (vstr_eq (congrArg (fun p => p.1) (stepR_yes htw hpf)).symm) (vstr_eq (congrArg (fun p => p.2.1) (stepR_yes htw hpf)).symm) (vbool_eq (congrArg (fun p => p.2.2) (stepR_yes htw hpf)).symm), Ext.of_below hB⟩
        · skip
          try simp only [decide_eq_true_eq, decide_eq_false_iff_not, Bool.not_eq_true', Bool.not_eq_false', Bool.not_not, Bool.not_true, Bool.not_false, Bool.not_eq_true, Bool.not_eq_false, Int.not_lt, Int.not_le, Bool.and_eq_true, Bool.or_eq_true, Bool.and_eq_false_iff, Bool.or_eq_false_iff] at hc51
          refine r_seq ?_
          refine r_region' ?_
          refine l_q (q_eql rfl rfl rfl) ?_
          refine l_q (q_assign (v := .bool _) rfl rfl) ?_
          refine l_nil ?_
          refine r_forget [(1, .string _), (2, .string _), (9, .int _ _), (10, .string _), (11, .int _ _), (46, .bool _)] ⟨rfl, rfl, rfl, rfl, rfl, rfl, trivial⟩ (fun e67 => ?_)
          refine r_cond rfl (fun hc68 => ?_) (fun hc68 => ?_)
          · skip
            try simp only [decide_eq_true_eq, decide_eq_false_iff_not, Bool.not_eq_true', Bool.not_eq_false', Bool.not_not, Bool.not_true, Bool.not_false, Bool.not_eq_true, Bool.not_eq_false, Int.not_lt, Int.not_le, Bool.and_eq_true, Bool.or_eq_true, Bool.and_eq_false_iff, Bool.or_eq_false_iff] at hc68
            refine r_seq ?_
            refine r_region' ?_
            refine l_q (q_move (v := .string _) rfl rfl) ?_
            refine l_q (q_eql_str rfl rfl rfl) ?_
            refine l_q (q_move (v := .bool _) rfl rfl) ?_
            refine l_part 50 rfl (fun hc69 => ?_) (fun hc69 => ?_)
            · skip
              try simp only [decide_eq_true_eq, decide_eq_false_iff_not, Bool.not_eq_true', Bool.not_eq_false', Bool.not_not, Bool.not_true, Bool.not_false, Bool.not_eq_true, Bool.not_eq_false, Int.not_lt, Int.not_le, Bool.and_eq_true, Bool.or_eq_true, Bool.and_eq_false_iff, Bool.or_eq_false_iff] at hc69
              refine l_q (q_skip rfl) ?_
              refine l_q (q_skip rfl) ?_
              refine l_q (q_skip rfl) ?_
              refine l_q (q_pick_t (v := .bool _) rfl rfl rfl) ?_
              refine l_nil ?_
              refine r_forget [(1, .string _), (2, .string _), (9, .int _ _), (10, .string _), (54, .bool _)] ⟨rfl, rfl, rfl, rfl, rfl, trivial⟩ (fun e70 => ?_)
              refine r_cond_t rfl ?_
              refine r_seq ?_
              refine r_region' ?_
              refine l_q (q_assign (v := .string _) rfl rfl) ?_
              refine l_q (q_assign (v := .string _) rfl rfl) ?_
              refine l_q (q_assign (v := .bool _) rfl rfl) ?_
              refine l_nil ?_
              refine r_forget [(6, .string _), (7, .string _), (8, .bool _)] ⟨rfl, rfl, rfl, trivial⟩ (fun e71 => ?_)
              refine r_ret_ (vs := [.string _, .string _, .bool _]) rfl Try.func52 rfl (.nil _) ⟨rfl, rfl, rfl, trivial⟩ ?_
              have htw : stepTW kind sent = none := by unfold stepTW; simp_all <;> (first | omega | (intro h; omega))
              exact ⟨tup3 (vstr_eq (congrArg (fun p => p.1) (stepR_none htw)).symm) (vstr_eq (congrArg (fun p => p.2.1) (stepR_none htw)).symm) (vbool_eq (congrArg (fun p => p.2.2) (stepR_none htw)).symm), Ext.of_below hB⟩
            · skip
              try simp only [decide_eq_true_eq, decide_eq_false_iff_not, Bool.not_eq_true', Bool.not_eq_false', Bool.not_not, Bool.not_true, Bool.not_false, Bool.not_eq_true, Bool.not_eq_false, Int.not_lt, Int.not_le, Bool.and_eq_true, Bool.or_eq_true, Bool.and_eq_false_iff, Bool.or_eq_false_iff] at hc69
              have hsl : 1 ≤ sent.length := List.length_pos_iff.2 hc69
              refine l_q (q_move (v := .string _) rfl rfl) ?_
              refine l_q (q_index_str (c := (sent).getD 0 0) Try.underlying9 rfl rfl (by omega) (getD_some (by omega)) rfl) ?_
              refine l_q (q_neq rfl rfl rfl) ?_
              refine l_q (q_pick_f (v := .bool _) rfl rfl rfl) ?_
              refine l_nil ?_
              refine r_forget [(1, .string _), (2, .string _), (9, .int _ _), (10, .string _), (54, .bool _)] ⟨rfl, rfl, rfl, rfl, rfl, trivial⟩ (fun e72 => ?_)
              refine r_cond rfl (fun hc73 => ?_) (fun hc73 => ?_)
              · skip
                try simp only [decide_eq_true_eq, decide_eq_false_iff_not, Bool.not_eq_true', Bool.not_eq_false', Bool.not_not, Bool.not_true, Bool.not_false, Bool.not_eq_true, Bool.not_eq_false, Int.not_lt, Int.not_le, Bool.and_eq_true, Bool.or_eq_true, Bool.and_eq_false_iff, Bool.or_eq_false_iff] at hc73
                have hb := u8_ne (n := 32) hc73
                refine r_seq ?_
                refine r_region' ?_
                refine l_q (q_assign (v := .string _) rfl rfl) ?_
                refine l_q (q_assign (v := .string _) rfl rfl) ?_
                refine l_q (q_assign (v := .bool _) rfl rfl) ?_
                refine l_nil ?_
                refine r_forget [(6, .string _), (7, .string _), (8, .bool _)] ⟨rfl, rfl, rfl, trivial⟩ (fun e74 => ?_)
                refine r_ret_ (vs := [.string _, .string _, .bool _]) rfl Try.func52 rfl (.nil _) ⟨rfl, rfl, rfl, trivial⟩ ?_
                have htw : stepTW kind sent = none := by unfold stepTW; simp_all <;> (first | omega | (intro h; omega))
                exact ⟨tup3 (vstr_eq (congrArg (fun p => p.1) (stepR_none htw)).symm) (vstr_eq (congrArg (fun p => p.2.1) (stepR_none htw)).symm) (vbool_eq (congrArg (fun p => p.2.2) (stepR_none htw)).symm), Ext.of_below hB⟩
              · skip
                try simp only [decide_eq_true_eq, decide_eq_false_iff_not, Bool.not_eq_true', Bool.not_eq_false', Bool.not_not, Bool.not_true, Bool.not_false, Bool.not_eq_true, Bool.not_eq_false, Int.not_lt, Int.not_le, Bool.and_eq_true, Bool.or_eq_true, Bool.and_eq_false_iff, Bool.or_eq_false_iff] at hc73
                have hb := u8_eq (n := 32) hc73
                refine r_skip ?_
                refine r_inBlock ?_
                refine r_seq ?_
                refine r_seq ?_
                have htw : stepTW kind sent = some (1, []) := by unfold stepTW; simp_all <;> omega
                refine r_region' ?_
                refine l_q (q_move (v := .string _) rfl rfl) ?_
                refine l_q (q_len_str rfl Try.underlying9 rfl rfl) ?_
                refine l_q (q_move (v := .string _) rfl rfl) ?_
                refine l_q (q_len_str rfl Try.underlying9 rfl rfl) ?_
                refine l_q (q_lss rfl rfl rfl) ?_
                refine l_q (q_move (v := .bool _) rfl rfl) ?_
                refine l_part 62 rfl (fun hc75 => ?_) (fun hc75 => ?_)
                · skip
                  try simp only [decide_eq_true_eq, decide_eq_false_iff_not, Bool.not_eq_true', Bool.not_eq_false', Bool.not_not, Bool.not_true, Bool.not_false, Bool.not_eq_true, Bool.not_eq_false, Int.not_lt, Int.not_le, Bool.and_eq_true, Bool.or_eq_true, Bool.and_eq_false_iff, Bool.or_eq_false_iff] at hc75
                  have hpf := pfx_short hc75
                  refine l_q (q_skip rfl) ?_
                  refine l_q (q_skip rfl) ?_
                  refine l_q (q_skip rfl) ?_
                  refine l_q (q_skip rfl) ?_
                  refine l_q (q_skip rfl) ?_
                  refine l_q (q_skip rfl) ?_
                  refine l_q (q_pick_t (v := .bool _) rfl rfl rfl) ?_
                  refine l_nil ?_
                  refine r_forget [(1, .string _), (2, .string _), (9, .int _ _), (10, .string _), (69, .bool _)] ⟨rfl, rfl, rfl, rfl, rfl, trivial⟩ (fun e76 => ?_)
                  refine r_cond_t rfl ?_
                  refine r_seq ?_
                  refine r_region' ?_
                  refine l_q (q_assign (v := .string _) rfl rfl) ?_
                  refine l_q (q_assign (v := .string _) rfl rfl) ?_
                  refine l_q (q_assign (v := .bool _) rfl rfl) ?_
                  refine l_nil ?_
                  refine r_forget [(6, .string _), (7, .string _), (8, .bool _)] ⟨rfl, rfl, rfl, trivial⟩ (fun e77 => ?_)
                  refine r_ret_ (vs := [.string _, .string _, .bool _]) rfl Try.func52 rfl (.nil _) ⟨rfl, rfl, rfl, trivial⟩ ?_
                  exact ⟨tup3 (vstr_eq (congrArg (fun p => p.1) (stepR_no htw hpf)).symm) (vstr_eq (congrArg (fun p => p.2.1) (stepR_no htw hpf)).symm) (vbool_eq (congrArg (fun p => p.2.2) (stepR_no htw hpf)).symm), Ext.of_below hB⟩
                · skip
                  try simp only [decide_eq_true_eq, decide_eq_false_iff_not, Bool.not_eq_true', Bool.not_eq_false', Bool.not_not, Bool.not_true, Bool.not_false, Bool.not_eq_true, Bool.not_eq_false, Int.not_lt, Int.not_le, Bool.and_eq_true, Bool.or_eq_true, Bool.and_eq_false_iff, Bool.or_eq_false_iff] at hc75
                  refine l_q (q_move (v := .string _) rfl rfl) ?_
                  refine l_q (q_move (v := .string _) rfl rfl) ?_
                  refine l_q (q_len_str rfl Try.underlying9 rfl rfl) ?_
                  refine l_q (q_slice_str_hi Try.underlying9 rfl rfl (by omega) rfl) ?_
                  refine l_q (q_move (v := .string _) rfl rfl) ?_
                  refine l_q (q_neq_str rfl rfl rfl) ?_
                  refine l_q (q_pick_f (v := .bool _) rfl rfl rfl) ?_
                  refine l_nil ?_
                  refine r_forget [(1, .string _), (2, .string _), (9, .int _ _), (10, .string _), (69, .bool _)] ⟨rfl, rfl, rfl, rfl, rfl, trivial⟩ (fun e78 => ?_)
                  refine r_cond rfl (fun hc79 => ?_) (fun hc79 => ?_)
                  · skip
                    try simp only [decide_eq_true_eq, decide_eq_false_iff_not, Bool.not_eq_true', Bool.not_eq_false', Bool.not_not, Bool.not_true, Bool.not_false, Bool.not_eq_true, Bool.not_eq_false, Int.not_lt, Int.not_le, Bool.and_eq_true, Bool.or_eq_true, Bool.and_eq_false_iff, Bool.or_eq_false_iff] at hc79
                    have hpf := pfx_no hc79
                    refine r_seq ?_
                    refine r_region' ?_
                    refine l_q (q_assign (v := .string _) rfl rfl) ?_
                    refine l_q (q_assign (v := .string _) rfl rfl) ?_
                    refine l_q (q_assign (v := .bool _) rfl rfl) ?_
                    refine l_nil ?_
                    refine r_forget [(6, .string _), (7, .string _), (8, .bool _)] ⟨rfl, rfl, rfl, trivial⟩ (fun e80 => ?_)
                    refine r_ret_ (vs := [.string _, .string _, .bool _]) rfl Try.func52 rfl (.nil _) ⟨rfl, rfl, rfl, trivial⟩ ?_
                    exact ⟨tup3 (vstr_eq (congrArg (fun p => p.1) (stepR_no htw hpf)).symm) (vstr_eq (congrArg (fun p => p.2.1) (stepR_no htw hpf)).symm) (vbool_eq (congrArg (fun p => p.2.2) (stepR_no htw hpf)).symm), Ext.of_below hB⟩
                  · skip
                    try simp only [decide_eq_true_eq, decide_eq_false_iff_not, Bool.not_eq_true', Bool.not_eq_false', Bool.not_not, Bool.not_true, Bool.not_false, Bool.not_eq_true, Bool.not_eq_false, Int.not_lt, Int.not_le, Bool.and_eq_true, Bool.or_eq_true, Bool.and_eq_false_iff, Bool.or_eq_false_iff] at hc79
                    have hpf := pfx_yes hc79
                    refine r_skip ?_
                    refine r_seq ?_
                    refine r_draw ext_refl' ext_trans' [0, 1, 2, 3, 4, 5, 6, 7, 8, 9] [] 2 (by kernel_rfl) (by kernel_rfl) ?_
                    intro w81 _ hE81
                    replace hB := below_ext hB hE81 hsz
                    replace hsz := Nat.le_trans hsz hE81.size
                    refine m_q rfl rfl (fun w' hC' => q_move (v := .string _) rfl rfl) ?_
                    refine m_q rfl rfl (fun w' hC' => q_move (v := .int _ _) rfl rfl) ?_
                    refine m_q rfl rfl (fun w' hC' => q_slice_str_lo Try.underlying9 rfl rfl (by omega) rfl) ?_
                    refine m_q rfl rfl (fun w' hC' => q_move (v := .string _) rfl rfl) ?_
                    refine m_q rfl rfl (fun w' hC' => q_move (v := .string _) rfl rfl) ?_
                    refine m_q rfl rfl (fun w' hC' => q_len_str rfl Try.underlying9 rfl rfl) ?_
                    refine m_q rfl rfl (fun w' hC' => q_slice_str_lo Try.underlying9 rfl rfl (by omega) rfl) ?_
                    refine m_q rfl rfl (fun w' hC' => q_assign (v := .string _) rfl rfl) ?_
                    refine m_q rfl rfl (fun w' hC' => q_assign (v := .string _) rfl rfl) ?_
                    refine m_q rfl rfl (fun w' hC' => q_assign (v := .bool _) rfl rfl) ?_
                    refine m_nil ?_
                    refine r_forget [(6, .string _), (7, .string _), (8, .bool _)] ⟨rfl, rfl, rfl, trivial⟩ (fun e82 => ?_)
                    refine r_ret_ (vs := [.string _, .string _, .bool _]) rfl Try.func52 rfl (.nil _) ⟨rfl, rfl, rfl, trivial⟩ ?_
                    exact ⟨tup3 (vstr_eq (congrArg (fun p => p.1) (stepR_yes htw hpf)).symm) (vstr_eq (congrArg (fun p => p.2.1) (stepR_yes htw hpf)).symm) (vbool_eq (congrArg (fun p => p.2.2) (stepR_yes htw hpf)).symm), Ext.of_below hB⟩
          · skip
            try simp only [decide_eq_true_eq, decide_eq_false_iff_not, Bool.not_eq_true', Bool.not_eq_false', Bool.not_not, Bool.not_true, Bool.not_false, Bool.not_eq_true, Bool.not_eq_false, Int.not_lt, Int.not_le, Bool.and_eq_true, Bool.or_eq_true, Bool.and_eq_false_iff, Bool.or_eq_false_iff] at hc68
            refine r_seq ?_
            refine r_region' ?_
            refine l_q (q_eql rfl rfl rfl) ?_
            refine l_q (q_assign (v := .bool _) rfl rfl) ?_
            refine l_nil ?_
            refine r_forget [(1, .string _), (2, .string _), (55, .bool _)] ⟨rfl, rfl, rfl, trivial⟩ (fun e83 => ?_)
            refine r_cond rfl (fun hc84 => ?_) (fun hc84 => ?_)
            · skip
              try simp only [decide_eq_true_eq, decide_eq_false_iff_not, Bool.not_eq_true', Bool.not_eq_false', Bool.not_not, Bool.not_true, Bool.not_false, Bool.not_eq_true, Bool.not_eq_false, Int.not_lt, Int.not_le, Bool.and_eq_true, Bool.or_eq_true, Bool.and_eq_false_iff, Bool.or_eq_false_iff] at hc84
              refine r_region' ?_
              refine l_q (q_assign (v := .int _ _) rfl rfl) ?_
              refine l_q (q_assign (v := .string _) rfl rfl) ?_
              refine l_nil ?_
              refine r_forget [(1, .string _), (2, .string _), (9, .int _ _), (10, .string _)] ⟨rfl, rfl, rfl, rfl, trivial⟩ (fun e85 => ?_)
              refine r_inBlock ?_
              refine r_seq ?_
              refine r_seq ?_
              have htw : stepTW kind sent = some (0, [32]) := by unfold stepTW; simp_all <;> omega
              refine r_region' ?_
              refine l_q (q_move (v := .string _) rfl rfl) ?_
              refine l_q (q_len_str rfl Try.underlying9 rfl rfl) ?_
              refine l_q (q_move (v := .string _) rfl rfl) ?_
              refine l_q (q_len_str rfl Try.underlying9 rfl rfl) ?_
              refine l_q (q_lss rfl rfl rfl) ?_
              refine l_q (q_move (v := .bool _) rfl rfl) ?_
              refine l_part 62 rfl (fun hc86 => ?_) (fun hc86 => ?_)
              · skip
                try simp only [decide_eq_true_eq, decide_eq_false_iff_not, Bool.not_eq_true', Bool.not_eq_false', Bool.not_not, Bool.not_true, Bool.not_false, Bool.not_eq_true, Bool.not_eq_false, Int.not_lt, Int.not_le, Bool.and_eq_true, Bool.or_eq_true, Bool.and_eq_false_iff, Bool.or_eq_false_iff] at hc86
                have hpf := pfx_short hc86
                refine l_q (q_skip rfl) ?_
                refine l_q (q_skip rfl) ?_
                refine l_q (q_skip rfl) ?_
                refine l_q (q_skip rfl) ?_
                refine l_q (q_skip rfl) ?_
                refine l_q (q_skip rfl) ?_
                refine l_q (q_pick_t (v := .bool _) rfl rfl rfl) ?_
                refine l_nil ?_
                refine r_forget [(1, .string _), (2, .string _), (9, .int _ _), (10, .string _), (69, .bool _)] ⟨rfl, rfl, rfl, rfl, rfl, trivial⟩ (fun e87 => ?_)
                refine r_cond_t rfl ?_
                refine r_seq ?_
                refine r_region' ?_
                refine l_q (q_assign (v := .string _) rfl rfl) ?_
                refine l_q (q_assign (v := .string _) rfl rfl) ?_
                refine l_q (q_assign (v := .bool _) rfl rfl) ?_
                refine l_nil ?_
                refine r_forget [(6, .string _), (7, .string _), (8, .bool _)] ⟨rfl, rfl, rfl, trivial⟩ (fun e88 => ?_)
                refine r_ret_ (vs := [.string _, .string _, .bool _]) rfl Try.func52 rfl (.nil _) ⟨rfl, rfl, rfl, trivial⟩ ?_
                exact ⟨tup3 (vstr_eq (congrArg (fun p => p.1) (stepR_no htw hpf)).symm) (vstr_eq (congrArg (fun p => p.2.1) (stepR_no htw hpf)).symm) (vbool_eq (congrArg (fun p => p.2.2) (stepR_no htw hpf)).symm), Ext.of_below hB⟩
              · skip
                try simp only [decide_eq_true_eq, decide_eq_false_iff_not, Bool.not_eq_true', Bool.not_eq_false', Bool.not_not, Bool.not_true, Bool.not_false, Bool.not_eq_true, Bool.not_eq_false, Int.not_lt, Int.not_le, Bool.and_eq_true, Bool.or_eq_true, Bool.and_eq_false_iff, Bool.or_eq_false_iff] at hc86
                refine l_q (q_move (v := .string _) rfl rfl) ?_
                refine l_q (q_move (v := .string _) rfl rfl) ?_
                refine l_q (q_len_str rfl Try.underlying9 rfl rfl) ?_
                refine l_q (q_slice_str_hi Try.underlying9 rfl rfl (by omega) rfl) ?_
                refine l_q (q_move (v := .string _) rfl rfl) ?_
                refine l_q (q_neq_str rfl rfl rfl) ?_
                refine l_q (q_pick_f (v := .bool _) rfl rfl rfl) ?_
                refine l_nil ?_
                refine r_forget [(1, .string _), (2, .string _), (9, .int _ _), (10, .string _), (69, .bool _)] ⟨rfl, rfl, rfl, rfl, rfl, trivial⟩ (fun e89 => ?_)
                refine r_cond rfl (fun hc90 => ?_) (fun hc90 => ?_)
                · skip
                  try simp only [decide_eq_true_eq, decide_eq_false_iff_not, Bool.not_eq_true', Bool.not_eq_false', Bool.not_not, Bool.not_true, Bool.not_false, Bool.not_eq_true, Bool.not_eq_false, Int.not_lt, Int.not_le, Bool.and_eq_true, Bool.or_eq_true, Bool.and_eq_false_iff, Bool.or_eq_false_iff] at hc90
                  have hpf := pfx_no hc90
                  refine r_seq ?_
                  refine r_region' ?_
                  refine l_q (q_assign (v := .string _) rfl rfl) ?_
                  refine l_q (q_assign (v := .string _) rfl rfl) ?_
                  refine l_q (q_assign (v := .bool _) rfl rfl) ?_
                  refine l_nil ?_
                  refine r_forget [(6, .string _), (7, .string _), (8, .bool _)] ⟨rfl, rfl, rfl, trivial⟩ (fun e91 => ?_)
                  refine r_ret_ (vs := [.string _, .string _, .bool _]) rfl Try.func52 rfl (.nil _) ⟨rfl, rfl, rfl, trivial⟩ ?_
                  exact ⟨tup3 (vstr_eq (congrArg (fun p => p.1) (stepR_no htw hpf)).symm) (vstr_eq (congrArg (fun p => p.2.1) (stepR_no htw hpf)).symm) (vbool_eq (congrArg (fun p => p.2.2) (stepR_no htw hpf)).symm), Ext.of_below hB⟩
                · skip
                  try simp only [decide_eq_true_eq, decide_eq_false_iff_not, Bool.not_eq_true', Bool.not_eq_false', Bool.not_not, Bool.not_true, Bool.not_false, Bool.not_eq_true, Bool.not_eq_false, Int.not_lt, Int.not_le, Bool.and_eq_true, Bool.or_eq_true, Bool.and_eq_false_iff, Bool.or_eq_false_iff] at hc90
                  have hpf := pfx_yes hc90
                  refine r_skip ?_
                  refine r_seq ?_
                  refine r_draw ext_refl' ext_trans' [0, 1, 2, 3, 4, 5, 6, 7, 8, 9] [] 2 (by kernel_rfl) (by kernel_rfl) ?_
                  intro w92 _ hE92
                  replace hB := below_ext hB hE92 hsz
                  replace hsz := Nat.le_trans hsz hE92.size
                  refine m_q rfl rfl (fun w' hC' => q_move (v := .string _) rfl rfl) ?_
                  refine m_q rfl rfl (fun w' hC' => q_move (v := .int _ _) rfl rfl) ?_
                  refine m_q rfl rfl (fun w' hC' => q_slice_str_lo Try.underlying9 rfl rfl (by omega) rfl) ?_
                  refine m_q rfl rfl (fun w' hC' => q_move (v := .string _) rfl rfl) ?_
                  refine m_q rfl rfl (fun w' hC' => q_move (v := .string _) rfl rfl) ?_
                  refine m_q rfl rfl (fun w' hC' => q_len_str rfl Try.underlying9 rfl rfl) ?_
                  refine m_q rfl rfl (fun w' hC' => q_slice_str_lo Try.underlying9 rfl rfl (by omega) rfl) ?_
                  refine m_q rfl rfl (fun w' hC' => q_assign (v := .string _) rfl rfl) ?_
                  refine m_q rfl rfl (fun w' hC' => q_assign (v := .string _) rfl rfl) ?_
                  refine m_q rfl rfl (fun w' hC' => q_assign (v := .bool _) rfl rfl) ?_
                  refine m_nil ?_
                  refine r_forget [(6, .string _), (7, .string _), (8, .bool _)] ⟨rfl, rfl, rfl, trivial⟩ (fun e93 => ?_)
                  refine r_ret_ (vs := [.string _, .string _, .bool _]) rfl Try.func52 rfl (.nil _) ⟨rfl, rfl, rfl, trivial⟩ ?_
                  exact ⟨tup3 (vstr_eq (congrArg (fun p => p.1) (stepR_yes htw hpf)).symm) (vstr_eq (congrArg (fun p => p.2.1) (stepR_yes htw hpf)).symm) (vbool_eq (congrArg (fun p => p.2.2) (stepR_yes htw hpf)).symm), Ext.of_below hB⟩
            · skip
              try simp only [decide_eq_true_eq, decide_eq_false_iff_not, Bool.not_eq_true', Bool.not_eq_false', Bool.not_not, Bool.not_true, Bool.not_false, Bool.not_eq_true, Bool.not_eq_false, Int.not_lt, Int.not_le, Bool.and_eq_true, Bool.or_eq_true, Bool.and_eq_false_iff, Bool.or_eq_false_iff] at hc84
              refine r_seq ?_
              refine r_region' ?_
              refine l_q (q_assign (v := .string _) rfl rfl) ?_
              refine l_q (q_assign (v := .string _) rfl rfl) ?_
              refine l_q (q_assign (v := .bool _) rfl rfl) ?_
              refine l_nil ?_
              refine r_forget [(6, .string _), (7, .string _), (8, .bool _)] ⟨rfl, rfl, rfl, trivial⟩ (fun e94 => ?_)
              refine r_ret_ (vs := [.string _, .string _, .bool _]) rfl Try.func52 rfl (.nil _) ⟨rfl, rfl, rfl, trivial⟩ ?_
              have htw : stepTW kind sent = none := by unfold stepTW; simp_all <;> (first | omega | (intro h; omega))
              exact ⟨tup3 (vstr_eq (congrArg (fun p => p.1) (stepR_none htw)).symm) (vstr_eq (congrArg (fun p => p.2.1) (stepR_none htw)).symm) (vbool_eq (congrArg (fun p => p.2.2) (stepR_none htw)).symm), Ext.of_below hB⟩
end Go.Proofs.Ytfbjllabgkabkaa
