/- Contracts. -/
import Derived.Test.YtkcbgpilfegofaaE1
set_option linter.unusedVariables false
set_option linter.unusedSimpArgs false
namespace Go.Proofs.Ytkcbgpilfegofaa
open Go Go.RowKit Go.Gv Go.Fl


theorem flashEqual_ret (s r : Sg) (w : World) (hs : s.length ≤ 2097152) (hr : r.length ≤ 2097152) : Ret Try.prog 7 [vstr s, vstr r] w (fun v w' => v = .bool true ∧ Ext w w') := by
  have hB := Below.refl w.heap.size w
  have hsz : w.heap.size ≤ w.heap.size := Nat.le_refl _
  refine ret_of_runs (args := [_, _]) Try.func7 rfl (Nat.le_of_ble_eq_true rfl) (by kernel_rfl) ?_
  refine r_seq ?_
  refine r_region' ?_
  refine l_q (q_assign (v := .bool _) rfl rfl) ?_
  refine l_nil ?_
  refine r_forget [(0, .string _), (1, .string _)] ⟨rfl, rfl, trivial⟩ (fun e1 => ?_)
  refine r_seq ?_
  refine r_seq ?_
  refine r_region' ?_
  refine l_q (q_move (v := .string _) rfl rfl) ?_
  refine l_q (q_move (v := .string _) rfl rfl) ?_
  refine l_o (o_call Try.call28 rfl (signed_ret _ _ _ (by omega) (by omega)) rfl ?_)
  rintro _ w2 ⟨rfl, rfl⟩
  refine l_q (q_neq rfl rfl rfl) ?_
  refine l_nil ?_
  refine r_forget [(0, .string _), (1, .string _), (12, .bool _)] ⟨rfl, rfl, rfl, trivial⟩ (fun e3 => ?_)
  refine r_cond rfl (fun hc4 => ?_) (fun hc4 => ?_)
  · skip
    try simp only [decide_eq_true_eq, decide_eq_false_iff_not, Bool.not_eq_true', Bool.not_eq_false', Bool.not_not, Bool.not_true, Bool.not_false, Bool.not_eq_true, Bool.not_eq_false, Int.not_lt, Int.not_le, Bool.and_eq_true, Bool.or_eq_true, Bool.and_eq_false_iff, Bool.or_eq_false_iff] at hc4
    refine r_seq ?_
    refine r_region' ?_
    refine l_o (o_call Try.call18 rfl (awake_ret _) rfl ?_)
    rintro _ w5 ⟨rfl, hE5⟩
    replace hB := below_ext hB hE5 hsz
    replace hsz := Nat.le_trans hsz hE5.size
    refine l_q (q_assign (v := .bool _) rfl rfl) ?_
    refine l_nil ?_
    refine r_forget [(4, .bool _)] ⟨rfl, trivial⟩ (fun e6 => ?_)
    refine r_ret_ (vs := [.bool _]) rfl Try.func7 rfl (.nil _) ⟨rfl, trivial⟩ ?_
    exact ⟨rfl, Ext.of_below hB⟩
  · skip
    try simp only [decide_eq_true_eq, decide_eq_false_iff_not, Bool.not_eq_true', Bool.not_eq_false', Bool.not_not, Bool.not_true, Bool.not_false, Bool.not_eq_true, Bool.not_eq_false, Int.not_lt, Int.not_le, Bool.and_eq_true, Bool.or_eq_true, Bool.and_eq_false_iff, Bool.or_eq_false_iff] at hc4
    have hsf : signsFault s r = 0 := by simpa using hc4
    have hss := errs_self hsf
    refine r_skip ?_
    refine r_seq ?_
    refine r_region' ?_
    refine l_q (q_move (v := .string _) rfl rfl) ?_
    refine l_q (q_move (v := .string _) rfl rfl) ?_
    refine l_o (o_call Try.call26 rfl (errors_ret s r _ (by omega) (by omega)) rfl ?_)
    rintro _ w7 ⟨rfl, hE7⟩
    replace hB := below_ext hB hE7 hsz
    replace hsz := Nat.le_trans hsz hE7.size
    refine l_q (q_move (v := .tuple _) rfl rfl) ?_
    refine l_q (q_extract (vs := [_, _]) (v := .int _ _) rfl rfl rfl) ?_
    refine l_q (q_extract (vs := [_, _]) (v := .int _ _) rfl rfl rfl) ?_
    refine l_q (q_assign (v := .int _ _) rfl rfl) ?_
    refine l_q (q_assign (v := .int _ _) rfl rfl) ?_
    refine l_nil ?_
    refine r_forget [(0, .string _), (1, .string _), (5, .int _ _), (6, .int _ _)] ⟨rfl, rfl, rfl, rfl, trivial⟩ (fun e8 => ?_)
    refine r_seq ?_
    refine r_region' ?_
    refine l_q (q_move (v := .string _) rfl rfl) ?_
    refine l_q (q_move (v := .string _) rfl rfl) ?_
    refine l_o (o_call Try.call26 rfl (errors_ret s s _ (by omega) (by omega)) rfl ?_)
    rintro _ w9 ⟨rfl, hE9⟩
    replace hB := below_ext hB hE9 hsz
    replace hsz := Nat.le_trans hsz hE9.size
    refine l_q (q_move (v := .tuple _) rfl rfl) ?_
    refine l_q (q_extract (vs := [_, _]) (v := .int _ _) rfl rfl rfl) ?_
    refine l_q (q_extract (vs := [_, _]) (v := .int _ _) rfl rfl rfl) ?_
    refine l_q (q_assign (v := .int _ _) rfl rfl) ?_
    refine l_q (q_assign (v := .int _ _) rfl rfl) ?_
    refine l_nil ?_
    refine r_forget [(0, .string _), (1, .string _), (5, .int _ _), (6, .int _ _), (7, .int _ _), (8, .int _ _)] ⟨rfl, rfl, rfl, rfl, rfl, rfl, trivial⟩ (fun e10 => ?_)
    refine r_seq ?_
    refine r_seq ?_
    refine r_region' ?_
    refine l_q (q_move (v := .int _ _) rfl rfl) ?_
    refine l_q (q_neq rfl rfl rfl) ?_
    refine l_q (q_move (v := .bool _) rfl rfl) ?_
    have hk11 : (!decide (((errs s s).2) = 0)) = false := by rw [hss]; simp
    refine l_part 28 rfl (fun hx => absurd (hk11.symm.trans hx) (by decide)) (fun _ => ?_)
    refine l_q (q_move (v := .int _ _) rfl rfl) ?_
    refine l_q (q_neq rfl rfl rfl) ?_
    refine l_q (q_pick_f (v := .bool _) rfl rfl rfl) ?_
    refine l_nil ?_
    refine r_forget [(0, .string _), (1, .string _), (5, .int _ _), (6, .int _ _), (31, .bool _)] ⟨rfl, rfl, rfl, rfl, rfl, trivial⟩ (fun e12 => ?_)
    have hk13 : (!decide (((errs s s).1) = 0)) = false := by rw [hss]; simp
    refine r_cond_f ((congrArg Value.bool hk13 : Value.bool _ = _)) ?_
    refine r_skip ?_
    refine r_seq ?_
    refine r_seq ?_
    refine r_region' ?_
    refine l_q (q_move (v := .int _ _) rfl rfl) ?_
    refine l_q (q_neq rfl rfl rfl) ?_
    refine l_nil ?_
    refine r_forget [(0, .string _), (1, .string _), (5, .int _ _), (6, .int _ _), (33, .bool _)] ⟨rfl, rfl, rfl, rfl, rfl, trivial⟩ (fun e14 => ?_)
    refine r_cond rfl (fun hc15 => ?_) (fun hc15 => ?_)
    · skip
      try simp only [decide_eq_true_eq, decide_eq_false_iff_not, Bool.not_eq_true', Bool.not_eq_false', Bool.not_not, Bool.not_true, Bool.not_false, Bool.not_eq_true, Bool.not_eq_false, Int.not_lt, Int.not_le, Bool.and_eq_true, Bool.or_eq_true, Bool.and_eq_false_iff, Bool.or_eq_false_iff] at hc15
      have he := errs_bad hsf (by simpa using hc15)
      refine r_seq ?_
      refine r_region' ?_
      refine l_q (q_move (v := .int _ _) rfl rfl) ?_
      refine l_q (q_eql rfl rfl rfl) ?_
      refine l_q (q_move (v := .bool _) rfl rfl) ?_
      have hk16 : (decide (((errs s r).2) = 11)) = true := by rw [he.1]; simp
      refine l_part 36 rfl (fun _ => ?_) (fun hx => absurd (hk16.symm.trans hx) (by decide))
      refine l_q (q_move (v := .string _) rfl rfl) ?_
      refine l_q (q_move (v := .string _) rfl rfl) ?_
      refine l_q (q_neq_str rfl rfl rfl) ?_
      refine l_q (q_pick_t (v := .bool _) rfl rfl rfl) ?_
      refine l_q (q_move (v := .bool _) rfl rfl) ?_
      have hk17 : (!decide (s = r)) = true := by simp [he.2]
      refine l_part 41 rfl (fun _ => ?_) (fun hx => absurd (hk17.symm.trans hx) (by decide))
      refine l_o (o_call Try.call18 rfl (awake_ret _) rfl ?_)
      rintro _ w18 ⟨rfl, hE18⟩
      replace hB := below_ext hB hE18 hsz
      replace hsz := Nat.le_trans hsz hE18.size
      refine l_q (q_pick_t (v := .bool _) rfl rfl rfl) ?_
      refine l_q (q_assign (v := .bool _) rfl rfl) ?_
      refine l_nil ?_
      refine r_forget [(4, .bool _)] ⟨rfl, trivial⟩ (fun e19 => ?_)
      refine r_ret_ (vs := [.bool _]) rfl Try.func7 rfl (.nil _) ⟨rfl, trivial⟩ ?_
      exact ⟨rfl, Ext.of_below hB⟩
    · skip
      try simp only [decide_eq_true_eq, decide_eq_false_iff_not, Bool.not_eq_true', Bool.not_eq_false', Bool.not_not, Bool.not_true, Bool.not_false, Bool.not_eq_true, Bool.not_eq_false, Int.not_lt, Int.not_le, Bool.and_eq_true, Bool.or_eq_true, Bool.and_eq_false_iff, Bool.or_eq_false_iff] at hc15
      have he : (errs s r).2 = 0 := by simpa using hc15
      have hq := errs_facts hsf he
      have hbb := errs_bounds s r
      refine r_skip ?_
      refine r_seq ?_
      refine r_region' ?_
      refine l_q (q_move (v := .int _ _) rfl rfl) ?_
      refine l_q (q_eql rfl rfl rfl) ?_
      refine l_q (q_move (v := .string _) rfl rfl) ?_
      refine l_q (q_move (v := .string _) rfl rfl) ?_
      refine l_q (q_eql_str rfl rfl rfl) ?_
      refine l_q (q_eql_bool Try.underlying4 rfl rfl rfl) ?_
      refine l_q (q_move (v := .bool _) rfl rfl) ?_
      have hk20 : ((decide (((errs s r).1) = 0)) == (decide (s = r))) = true := by simp [hq.1]
      refine l_part 50 rfl (fun _ => ?_) (fun hx => absurd (hk20.symm.trans hx) (by decide))
      refine l_q (q_move (v := .string _) rfl rfl) ?_
      refine l_q (q_len_str rfl Try.underlying9 rfl rfl) ?_
      refine l_q (q_move (v := .string _) rfl rfl) ?_
      refine l_q (q_len_str rfl Try.underlying9 rfl rfl) ?_
      refine l_q (q_sub rfl rfl (by omega) rfl) ?_
      refine l_q (q_move (v := .int _ _) rfl rfl) ?_
      refine l_q (q_leq rfl rfl rfl) ?_
      refine l_q (q_pick_t (v := .bool _) rfl rfl rfl) ?_
      refine l_q (q_move (v := .bool _) rfl rfl) ?_
      have hk21 : (decide ((((s).length : Int) - ((r).length : Int)) ≤ ((errs s r).1))) = true := by rw [decide_eq_true_eq]; omega
      refine l_part 59 rfl (fun _ => ?_) (fun hx => absurd (hk21.symm.trans hx) (by decide))
      refine l_q (q_move (v := .string _) rfl rfl) ?_
      refine l_q (q_len_str rfl Try.underlying9 rfl rfl) ?_
      refine l_q (q_move (v := .string _) rfl rfl) ?_
      refine l_q (q_len_str rfl Try.underlying9 rfl rfl) ?_
      refine l_q (q_sub rfl rfl (by omega) rfl) ?_
      refine l_q (q_move (v := .int _ _) rfl rfl) ?_
      refine l_q (q_leq rfl rfl rfl) ?_
      refine l_q (q_pick_t (v := .bool _) rfl rfl rfl) ?_
      refine l_q (q_move (v := .bool _) rfl rfl) ?_
      have hk22 : (decide ((((r).length : Int) - ((s).length : Int)) ≤ ((errs s r).1))) = true := by rw [decide_eq_true_eq]; omega
      refine l_part 68 rfl (fun _ => ?_) (fun hx => absurd (hk22.symm.trans hx) (by decide))
      refine l_o (o_call Try.call18 rfl (awake_ret _) rfl ?_)
      rintro _ w23 ⟨rfl, hE23⟩
      replace hB := below_ext hB hE23 hsz
      replace hsz := Nat.le_trans hsz hE23.size
      refine l_q (q_pick_t (v := .bool _) rfl rfl rfl) ?_
      refine l_q (q_assign (v := .bool _) rfl rfl) ?_
      refine l_nil ?_
      refine r_forget [(4, .bool _)] ⟨rfl, trivial⟩ (fun e24 => ?_)
      refine r_ret_ (vs := [.bool _]) rfl Try.func7 rfl (.nil _) ⟨rfl, trivial⟩ ?_
      exact ⟨rfl, Ext.of_below hB⟩
end Go.Proofs.Ytkcbgpilfegofaa
