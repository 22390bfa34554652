/- Contracts. -/
import Derived.Test.YtkcbgpilfegofaaF21
set_option linter.unusedVariables false
set_option linter.unusedSimpArgs false
namespace Go.Proofs.Ytkcbgpilfegofaa
open Go Go.RowKit Go.Gv Go.Fl

theorem exN_len : ∀ (n : Nat) (s r : Sg), (exN n s r).length ≤ n
  | 0, s, r => Nat.le_refl _
  | n + 1, s, r => by
    unfold exN
    split
    · simp
    · split
      · rw [List.length_cons]; have := exN_len n (stepR (↑(‹Nat› : Nat)) s r).1 (stepR (↑(‹Nat› : Nat)) s r).2.1; exact Nat.succ_le_succ (exN_len n _ _)
      · simp
theorem ex_len (s r : Sg) : (ex s r).length ≤ s.length + r.length := exN_len _ _ _
theorem errs_err {s r : Sg} (h : ¬ signsFault s r = 0) : errs s r = (0, signsFault s r) := by unfold errs; rw [if_pos (by simpa using h)]
theorem errs_far {s r : Sg} (h : signsFault s r = 0) (h' : ¬ fe 1000 s r < 1000) : errs s r = (0, 11) := by
  rw [errs_eq h, if_pos]
  have h4 := sf_zero h
  have h1 := fe_small (s := s) (r := r) h4.2.2.1 h4.2.2.2.1
  rw [fe_less] at h'
  omega
theorem errs_near {s r : Sg} (h : signsFault s r = 0) (h' : fe 1048576 s r < 1000) : errs s r = (fe 1000 s r, 0) := by
  rw [errs_eq h, if_neg (by omega), fe_min, show min (fe 1048576 s r) 1000 = fe 1048576 s r by omega]


theorem flashErrs_ret (s r : Sg) (w : World) (hs : s.length ≤ 2097152) (hr : r.length ≤ 2097152) : Ret Try.prog 4 [vstr s, vstr r] w (fun v w' => v = .bool true ∧ Ext w w') := by
  have hB := Below.refl w.heap.size w
  have hsz : w.heap.size ≤ w.heap.size := Nat.le_refl _
  refine ret_of_runs (args := [_, _]) Try.func4 rfl (Nat.le_of_ble_eq_true rfl) (by kernel_rfl) ?_
  refine r_seq ?_
  refine r_region' ?_
  refine l_q (q_assign (v := .bool _) rfl rfl) ?_
  refine l_nil ?_
  refine r_forget [(0, .string _), (1, .string _)] ⟨rfl, rfl, trivial⟩ (fun e1 => ?_)
  refine r_seq ?_
  refine r_seq ?_
  refine r_region' ?_
  refine l_q (q_move (v := .string _) rfl rfl) ?_
  refine l_q (q_len_str rfl Try.underlying9 rfl rfl) ?_
  refine l_q (q_gtr rfl rfl rfl) ?_
  refine l_q (q_move (v := .bool _) rfl rfl) ?_
  refine l_part 16 rfl (fun hc2 => ?_) (fun hc2 => ?_)
  · skip
    try simp only [decide_eq_true_eq, decide_eq_false_iff_not, Bool.not_eq_true', Bool.not_eq_false', Bool.not_not, Bool.not_true, Bool.not_false, Bool.not_eq_true, Bool.not_eq_false, Int.not_lt, Int.not_le, Bool.and_eq_true, Bool.or_eq_true, Bool.and_eq_false_iff, Bool.or_eq_false_iff] at hc2
    refine l_q (q_skip rfl) ?_
    refine l_q (q_skip rfl) ?_
    refine l_q (q_skip rfl) ?_
    refine l_q (q_pick_t (v := .bool _) rfl rfl rfl) ?_
    refine l_nil ?_
    refine r_forget [(0, .string _), (1, .string _), (20, .bool _)] ⟨rfl, rfl, rfl, trivial⟩ (fun e3 => ?_)
    refine r_cond_t rfl ?_
    refine r_seq ?_
    refine r_region' ?_
    refine l_o (o_call Try.call18 rfl (awake_ret _) rfl ?_)
    rintro _ w4 ⟨rfl, hE4⟩
    replace hB := below_ext hB hE4 hsz
    replace hsz := Nat.le_trans hsz hE4.size
    refine l_q (q_assign (v := .bool _) rfl rfl) ?_
    refine l_nil ?_
    refine r_forget [(4, .bool _)] ⟨rfl, trivial⟩ (fun e5 => ?_)
    refine r_ret_ (vs := [.bool _]) rfl Try.func4 rfl (.nil _) ⟨rfl, trivial⟩ ?_
    exact ⟨rfl, Ext.of_below hB⟩
  · skip
    try simp only [decide_eq_true_eq, decide_eq_false_iff_not, Bool.not_eq_true', Bool.not_eq_false', Bool.not_not, Bool.not_true, Bool.not_false, Bool.not_eq_true, Bool.not_eq_false, Int.not_lt, Int.not_le, Bool.and_eq_true, Bool.or_eq_true, Bool.and_eq_false_iff, Bool.or_eq_false_iff] at hc2
    refine l_q (q_move (v := .string _) rfl rfl) ?_
    refine l_q (q_len_str rfl Try.underlying9 rfl rfl) ?_
    refine l_q (q_gtr rfl rfl rfl) ?_
    refine l_q (q_pick_f (v := .bool _) rfl rfl rfl) ?_
    refine l_nil ?_
    refine r_forget [(0, .string _), (1, .string _), (20, .bool _)] ⟨rfl, rfl, rfl, trivial⟩ (fun e6 => ?_)
    refine r_cond rfl (fun hc7 => ?_) (fun hc7 => ?_)
    · skip
      try simp only [decide_eq_true_eq, decide_eq_false_iff_not, Bool.not_eq_true', Bool.not_eq_false', Bool.not_not, Bool.not_true, Bool.not_false, Bool.not_eq_true, Bool.not_eq_false, Int.not_lt, Int.not_le, Bool.and_eq_true, Bool.or_eq_true, Bool.and_eq_false_iff, Bool.or_eq_false_iff] at hc7
      refine r_seq ?_
      refine r_region' ?_
      refine l_o (o_call Try.call18 rfl (awake_ret _) rfl ?_)
      rintro _ w8 ⟨rfl, hE8⟩
      replace hB := below_ext hB hE8 hsz
      replace hsz := Nat.le_trans hsz hE8.size
      refine l_q (q_assign (v := .bool _) rfl rfl) ?_
      refine l_nil ?_
      refine r_forget [(4, .bool _)] ⟨rfl, trivial⟩ (fun e9 => ?_)
      refine r_ret_ (vs := [.bool _]) rfl Try.func4 rfl (.nil _) ⟨rfl, trivial⟩ ?_
      exact ⟨rfl, Ext.of_below hB⟩
    · skip
      try simp only [decide_eq_true_eq, decide_eq_false_iff_not, Bool.not_eq_true', Bool.not_eq_false', Bool.not_not, Bool.not_true, Bool.not_false, Bool.not_eq_true, Bool.not_eq_false, Int.not_lt, Int.not_le, Bool.and_eq_true, Bool.or_eq_true, Bool.and_eq_false_iff, Bool.or_eq_false_iff] at hc7
      refine r_skip ?_
      refine r_seq ?_
      refine r_region' ?_
      refine l_q (q_move (v := .string _) rfl rfl) ?_
      refine l_q (q_move (v := .string _) rfl rfl) ?_
      refine l_o (o_call Try.call26 rfl (errors_ret s r _ (by omega) (by omega)) rfl ?_)
      rintro _ w10 ⟨rfl, hE10⟩
      replace hB := below_ext hB hE10 hsz
      replace hsz := Nat.le_trans hsz hE10.size
      refine l_q (q_move (v := .tuple _) rfl rfl) ?_
      refine l_q (q_extract (vs := [_, _]) (v := .int _ _) rfl rfl rfl) ?_
      refine l_q (q_extract (vs := [_, _]) (v := .int _ _) rfl rfl rfl) ?_
      refine l_q (q_assign (v := .int _ _) rfl rfl) ?_
      refine l_q (q_assign (v := .int _ _) rfl rfl) ?_
      refine l_nil ?_
      refine r_forget [(0, .string _), (1, .string _), (5, .int _ _), (6, .int _ _)] ⟨rfl, rfl, rfl, rfl, trivial⟩ (fun e11 => ?_)
      refine r_seq ?_
      refine r_region' ?_
      refine l_q (q_move (v := .string _) rfl rfl) ?_
      refine l_q (q_move (v := .string _) rfl rfl) ?_
      refine l_o (o_call Try.call27 rfl (explain_ret s r _ (by omega) (by omega)) rfl ?_)
      rintro _ w12 ⟨a12_0, c12_0, rfl, ho12_0, hE12⟩
      replace ho12_0 := own_mono ho12_0 (show w.heap.size ≤ _ by omega)
      replace hB := below_ext hB hE12 hsz
      replace hsz := Nat.le_trans hsz hE12.size
      refine l_q (q_move (v := .tuple _) rfl rfl) ?_
      refine l_q (q_extract (vs := [_, _]) (v := .slice _ _ _) rfl rfl rfl) ?_
      refine l_q (q_extract (vs := [_, _]) (v := .int _ _) rfl rfl rfl) ?_
      refine l_q (q_assign (v := .slice _ _ _) rfl rfl) ?_
      refine l_q (q_assign (v := .int _ _) rfl rfl) ?_
      refine l_nil ?_
      refine r_forget [(0, .string _), (1, .string _), (5, .int _ _), (6, .int _ _), (7, .slice _ _ _), (8, .int _ _)] ⟨rfl, rfl, rfl, rfl, rfl, rfl, trivial⟩ (fun e13 => ?_)
      refine r_seq ?_
      refine r_region' ?_
      refine l_q (q_move (v := .string _) rfl rfl) ?_
      refine l_q (q_move (v := .string _) rfl rfl) ?_
      refine l_o (o_call Try.call28 rfl (signed_ret _ _ _ (by omega) (by omega)) rfl ?_)
      rintro _ w14 ⟨rfl, rfl⟩
      refine l_q (q_assign (v := .int _ _) rfl rfl) ?_
      refine l_nil ?_
      refine r_forget [(0, .string _), (1, .string _), (5, .int _ _), (6, .int _ _), (7, .slice _ _ _), (8, .int _ _), (9, .int _ _)] ⟨rfl, rfl, rfl, rfl, rfl, rfl, rfl, trivial⟩ (fun e15 => ?_)
      refine r_seq ?_
      refine r_region' ?_
      refine l_q (q_assign (v := .int _ _) rfl rfl) ?_
      refine l_nil ?_
      refine r_seq ?_
      refine r_seq ?_
      refine r_region' ?_
      refine l_q (q_move (v := .int _ _) rfl rfl) ?_
      refine l_q (q_eql rfl rfl rfl) ?_
      refine l_nil ?_
      refine r_forget [(0, .string _), (1, .string _), (5, .int _ _), (6, .int _ _), (7, .slice _ _ _), (8, .int _ _), (9, .int _ _), (10, .int _ _), (38, .bool _)] ⟨rfl, rfl, rfl, rfl, rfl, rfl, rfl, rfl, rfl, trivial⟩ (fun e16 => ?_)
      refine r_cond rfl (fun hc17 => ?_) (fun hc17 => ?_)
      · skip
        try simp only [decide_eq_true_eq, decide_eq_false_iff_not, Bool.not_eq_true', Bool.not_eq_false', Bool.not_not, Bool.not_true, Bool.not_false, Bool.not_eq_true, Bool.not_eq_false, Int.not_lt, Int.not_le, Bool.and_eq_true, Bool.or_eq_true, Bool.and_eq_false_iff, Bool.or_eq_false_iff] at hc17
        have hsf : signsFault s r = 0 := hc17
        have hs4 := (sf_zero hsf).2.2.1
        have hr4 := (sf_zero hsf).2.2.2.1
        refine r_seq ?_
        refine r_region' ?_
        refine l_q (q_move (v := .string _) rfl rfl) ?_
        refine l_q (q_move (v := .string _) rfl rfl) ?_
        refine l_o (o_call Try.call29 rfl (rerrors_ret s r _ hs4 hr4) rfl ?_)
        rintro _ w18 ⟨rfl, hE18⟩
        replace hB := below_ext hB hE18 hsz
        replace ho12_0 := own_ext ho12_0 hE18
        replace hsz := Nat.le_trans hsz hE18.size
        refine l_q (q_move (v := .tuple _) rfl rfl) ?_
        refine l_q (q_extract (vs := [_, _]) (v := .int _ _) rfl rfl rfl) ?_
        refine l_q (q_extract (vs := [_, _]) (v := .bool _) rfl rfl rfl) ?_
        refine l_q (q_assign (v := .int _ _) rfl rfl) ?_
        refine l_q (q_assign (v := .bool _) rfl rfl) ?_
        refine l_nil ?_
        refine r_forget [(0, .string _), (1, .string _), (5, .int _ _), (6, .int _ _), (7, .slice _ _ _), (8, .int _ _), (9, .int _ _), (11, .int _ _), (12, .bool _)] ⟨rfl, rfl, rfl, rfl, rfl, rfl, rfl, rfl, rfl, trivial⟩ (fun e19 => ?_)
        refine r_seq ?_
        refine r_region' ?_
        refine l_q (q_move (v := .int _ _) rfl rfl) ?_
        refine l_q (q_assign (v := .int _ _) rfl rfl) ?_
        refine l_nil ?_
        refine r_forget [(0, .string _), (1, .string _), (5, .int _ _), (6, .int _ _), (7, .slice _ _ _), (8, .int _ _), (9, .int _ _), (10, .int _ _), (12, .bool _)] ⟨rfl, rfl, rfl, rfl, rfl, rfl, rfl, rfl, rfl, trivial⟩ (fun e20 => ?_)
        refine r_seq ?_
        refine r_region' ?_
        refine l_q (q_move (v := .bool _) rfl rfl) ?_
        refine l_q (q_not rfl rfl) ?_
        refine l_nil ?_
        refine r_forget [(0, .string _), (1, .string _), (5, .int _ _), (6, .int _ _), (7, .slice _ _ _), (8, .int _ _), (9, .int _ _), (10, .int _ _), (47, .bool _)] ⟨rfl, rfl, rfl, rfl, rfl, rfl, rfl, rfl, rfl, trivial⟩ (fun e21 => ?_)
        refine r_cond rfl (fun hc22 => ?_) (fun hc22 => ?_)
        · skip
          try simp only [decide_eq_true_eq, decide_eq_false_iff_not, Bool.not_eq_true', Bool.not_eq_false', Bool.not_not, Bool.not_true, Bool.not_false, Bool.not_eq_true, Bool.not_eq_false, Int.not_lt, Int.not_le, Bool.and_eq_true, Bool.or_eq_true, Bool.and_eq_false_iff, Bool.or_eq_false_iff] at hc22
          have he := errs_far hsf (by omega)
          have hx : exL s r = [] := by rw [exL, if_neg (by rw [he]; decide)]
          refine r_region' ?_
          refine l_q (q_assign (v := .int _ _) rfl rfl) ?_
          refine l_q (q_assign (v := .int _ _) rfl rfl) ?_
          refine l_nil ?_
          refine r_forget [(0, .string _), (1, .string _), (5, .int _ _), (6, .int _ _), (7, .slice _ _ _), (8, .int _ _), (9, .int _ _), (10, .int _ _)] ⟨rfl, rfl, rfl, rfl, rfl, rfl, rfl, rfl, trivial⟩ (fun e23 => ?_)
          refine r_seq ?_
          refine r_seq ?_
          refine r_region' ?_
          refine l_q (q_move (v := .int _ _) rfl rfl) ?_
          refine l_q (q_neq rfl rfl rfl) ?_
          refine l_nil ?_
          refine r_forget [(0, .string _), (1, .string _), (5, .int _ _), (6, .int _ _), (7, .slice _ _ _), (8, .int _ _), (9, .int _ _), (10, .int _ _), (49, .bool _)] ⟨rfl, rfl, rfl, rfl, rfl, rfl, rfl, rfl, rfl, trivial⟩ (fun e24 => ?_)
          have hk25 : (!decide (11 = 0)) = true := by decide
          refine r_cond_t ((congrArg Value.bool hk25 : Value.bool _ = _)) ?_
          refine r_seq ?_
          refine r_region' ?_
          refine l_q (q_move (v := .int _ _) rfl rfl) ?_
          refine l_q (q_move (v := .int _ _) rfl rfl) ?_
          refine l_q (q_eql rfl rfl rfl) ?_
          refine l_q (q_move (v := .bool _) rfl rfl) ?_
          have hk26 : (decide (((errs s r).2) = 11)) = true := by rw [he]; simp
          refine l_part 53 rfl (fun _ => ?_) (fun hx => absurd (hk26.symm.trans hx) (by decide))
          refine l_q (q_move (v := .int _ _) rfl rfl) ?_
          refine l_q (q_move (v := .int _ _) rfl rfl) ?_
          refine l_q (q_eql rfl rfl rfl) ?_
          refine l_q (q_pick_t (v := .bool _) rfl rfl rfl) ?_
          refine l_q (q_move (v := .bool _) rfl rfl) ?_
          have hk27 : (decide (((errs s r).2) = 11)) = true := by rw [he]; simp
          refine l_part 58 rfl (fun _ => ?_) (fun hx => absurd (hk27.symm.trans hx) (by decide))
          refine l_q (q_move (v := .int _ _) rfl rfl) ?_
          refine l_q (q_eql rfl rfl rfl) ?_
          refine l_q (q_pick_t (v := .bool _) rfl rfl rfl) ?_
          refine l_q (q_move (v := .bool _) rfl rfl) ?_
          have hk28 : (decide (((errs s r).1) = 0)) = true := by rw [he]; simp
          refine l_part 62 rfl (fun _ => ?_) (fun hx => absurd (hk28.symm.trans hx) (by decide))
          refine l_q (q_move (v := .slice _ _ _) rfl rfl) ?_
          refine l_q (q_len rfl Try.underlying25 rfl rfl) ?_
          refine l_q (q_eql rfl rfl rfl) ?_
          refine l_q (q_pick_t (v := .bool _) rfl rfl rfl) ?_
          refine l_q (q_move (v := .bool _) rfl rfl) ?_
          have hk29 : (decide (((exL s r).length : Int) = 0)) = true := by rw [hx]; rfl
          refine l_part 67 rfl (fun _ => ?_) (fun hx => absurd (hk29.symm.trans hx) (by decide))
          refine l_o (o_call Try.call18 rfl (awake_ret _) rfl ?_)
          rintro _ w30 ⟨rfl, hE30⟩
          replace hB := below_ext hB hE30 hsz
          replace ho12_0 := own_ext ho12_0 hE30
          replace hsz := Nat.le_trans hsz hE30.size
          refine l_q (q_pick_t (v := .bool _) rfl rfl rfl) ?_
          refine l_q (q_assign (v := .bool _) rfl rfl) ?_
          refine l_nil ?_
          refine r_forget [(4, .bool _)] ⟨rfl, trivial⟩ (fun e31 => ?_)
          refine r_ret_ (vs := [.bool _]) rfl Try.func4 rfl (.nil _) ⟨rfl, trivial⟩ ?_
          exact ⟨rfl, Ext.of_below hB⟩
        · skip
          try simp only [decide_eq_true_eq, decide_eq_false_iff_not, Bool.not_eq_true', Bool.not_eq_false', Bool.not_not, Bool.not_true, Bool.not_false, Bool.not_eq_true, Bool.not_eq_false, Int.not_lt, Int.not_le, Bool.and_eq_true, Bool.or_eq_true, Bool.and_eq_false_iff, Bool.or_eq_false_iff] at hc22
          have hlt := fe_less.1 hc22
          have he := errs_near hsf hlt
          have hx : exL s r = ex s r := by rw [exL, if_pos (by rw [he])]
          have hxl := ex_len s r
          have hxl2 := ex_len s r
          rw [← hx] at hxl2
          refine r_skip ?_
          refine r_seq ?_
          refine r_seq ?_
          refine r_region' ?_
          refine l_q (q_move (v := .int _ _) rfl rfl) ?_
          refine l_q (q_neq rfl rfl rfl) ?_
          refine l_nil ?_
          refine r_forget [(0, .string _), (1, .string _), (5, .int _ _), (6, .int _ _), (7, .slice _ _ _), (8, .int _ _), (9, .int _ _), (10, .int _ _), (49, .bool _)] ⟨rfl, rfl, rfl, rfl, rfl, rfl, rfl, rfl, rfl, trivial⟩ (fun e32 => ?_)
          have hk33 : (!decide ((signsFault s r) = 0)) = false := by rw [hsf]; rfl
          refine r_cond_f ((congrArg Value.bool hk33 : Value.bool _ = _)) ?_
          refine r_skip ?_
          refine r_seq ?_
          refine r_region' ?_
          refine l_q (q_move (v := .int _ _) rfl rfl) ?_
          refine l_q (q_eql rfl rfl rfl) ?_
          refine l_q (q_move (v := .bool _) rfl rfl) ?_
          have hk34 : (decide (((errs s r).2) = 0)) = true := by rw [he]; simp
          refine l_part 72 rfl (fun _ => ?_) (fun hx => absurd (hk34.symm.trans hx) (by decide))
          refine l_q (q_move (v := .int _ _) rfl rfl) ?_
          refine l_q (q_eql rfl rfl rfl) ?_
          refine l_q (q_pick_t (v := .bool _) rfl rfl rfl) ?_
          refine l_q (q_move (v := .bool _) rfl rfl) ?_
          have hk35 : (decide (((errs s r).2) = 0)) = true := by rw [he]; simp
          refine l_part 76 rfl (fun _ => ?_) (fun hx => absurd (hk35.symm.trans hx) (by decide))
          refine l_q (q_move (v := .int _ _) rfl rfl) ?_
          refine l_q (q_move (v := .int _ _) rfl rfl) ?_
          refine l_q (q_eql rfl rfl rfl) ?_
          refine l_q (q_pick_t (v := .bool _) rfl rfl rfl) ?_
          refine l_q (q_move (v := .bool _) rfl rfl) ?_
          have hk36 : (decide (((errs s r).1) = (fe 1000 s r))) = true := by rw [he]; simp
          refine l_part 81 rfl (fun _ => ?_) (fun hx => absurd (hk36.symm.trans hx) (by decide))
          refine l_q (q_move (v := .slice _ _ _) rfl rfl) ?_
          refine l_q (q_move (v := .string _) rfl rfl) ?_
          refine l_q (q_move (v := .string _) rfl rfl) ?_
          refine l_o (o_call Try.call31 rfl (rexplain_ret s r _ hs4 hr4 hlt) rfl ?_)
          rintro _ w37 ⟨a37_0, c37_0, rfl, ho37_0, hE37⟩
          replace ho37_0 := own_mono ho37_0 (show w.heap.size ≤ _ by omega)
          replace hB := below_ext hB hE37 hsz
          replace ho12_0 := own_ext ho12_0 hE37
          replace hsz := Nat.le_trans hsz hE37.size
          refine l_o (o_call Try.call30 rfl (same_ret _ _ (exL s r) _ _ (ex s r) _ (Row.of_owns ho12_0) (by omega) (Row.of_owns ho37_0) (by omega)) rfl ?_)
          rintro _ w38 ⟨rfl, hE38⟩
          replace hB := below_ext hB hE38 hsz
          replace ho12_0 := own_ext ho12_0 hE38
          replace ho37_0 := own_ext ho37_0 hE38
          replace hsz := Nat.le_trans hsz hE38.size
          refine l_q (q_pick_t (v := .bool _) rfl rfl rfl) ?_
          refine l_q (q_move (v := .bool _) rfl rfl) ?_
          have hk39 : (decide ((exL s r) = (ex s r))) = true := by rw [hx]; simp
          refine l_part 88 rfl (fun _ => ?_) (fun hx => absurd (hk39.symm.trans hx) (by decide))
          refine l_o (o_call Try.call18 rfl (awake_ret _) rfl ?_)
          rintro _ w40 ⟨rfl, hE40⟩
          replace hB := below_ext hB hE40 hsz
          replace ho12_0 := own_ext ho12_0 hE40
          replace ho37_0 := own_ext ho37_0 hE40
          replace hsz := Nat.le_trans hsz hE40.size
          refine l_q (q_pick_t (v := .bool _) rfl rfl rfl) ?_
          refine l_q (q_assign (v := .bool _) rfl rfl) ?_
          refine l_nil ?_
          refine r_forget [(4, .bool _)] ⟨rfl, trivial⟩ (fun e41 => ?_)
          refine r_ret_ (vs := [.bool _]) rfl Try.func4 rfl (.nil _) ⟨rfl, trivial⟩ ?_
          exact ⟨rfl, Ext.of_below hB⟩
      · skip
        try simp only [decide_eq_true_eq, decide_eq_false_iff_not, Bool.not_eq_true', Bool.not_eq_false', Bool.not_not, Bool.not_true, Bool.not_false, Bool.not_eq_true, Bool.not_eq_false, Int.not_lt, Int.not_le, Bool.and_eq_true, Bool.or_eq_true, Bool.and_eq_false_iff, Bool.or_eq_false_iff] at hc17
        have hsf : ¬ signsFault s r = 0 := hc17
        have he := errs_err hsf
        have hx : exL s r = [] := by rw [exL, if_neg (by rw [he]; exact hsf)]
        refine r_skip ?_
        refine r_seq ?_
        refine r_seq ?_
        refine r_region' ?_
        refine l_q (q_move (v := .int _ _) rfl rfl) ?_
        refine l_q (q_neq rfl rfl rfl) ?_
        refine l_nil ?_
        refine r_forget [(0, .string _), (1, .string _), (5, .int _ _), (6, .int _ _), (7, .slice _ _ _), (8, .int _ _), (9, .int _ _), (10, .int _ _), (49, .bool _)] ⟨rfl, rfl, rfl, rfl, rfl, rfl, rfl, rfl, rfl, trivial⟩ (fun e42 => ?_)
        have hk43 : (!decide ((signsFault s r) = 0)) = true := by simp [hsf]
        refine r_cond_t ((congrArg Value.bool hk43 : Value.bool _ = _)) ?_
        refine r_seq ?_
        refine r_region' ?_
        refine l_q (q_move (v := .int _ _) rfl rfl) ?_
        refine l_q (q_move (v := .int _ _) rfl rfl) ?_
        refine l_q (q_eql rfl rfl rfl) ?_
        refine l_q (q_move (v := .bool _) rfl rfl) ?_
        have hk44 : (decide (((errs s r).2) = (signsFault s r))) = true := by rw [he]; simp
        refine l_part 53 rfl (fun _ => ?_) (fun hx => absurd (hk44.symm.trans hx) (by decide))
        refine l_q (q_move (v := .int _ _) rfl rfl) ?_
        refine l_q (q_move (v := .int _ _) rfl rfl) ?_
        refine l_q (q_eql rfl rfl rfl) ?_
        refine l_q (q_pick_t (v := .bool _) rfl rfl rfl) ?_
        refine l_q (q_move (v := .bool _) rfl rfl) ?_
        have hk45 : (decide (((errs s r).2) = (signsFault s r))) = true := by rw [he]; simp
        refine l_part 58 rfl (fun _ => ?_) (fun hx => absurd (hk45.symm.trans hx) (by decide))
        refine l_q (q_move (v := .int _ _) rfl rfl) ?_
        refine l_q (q_eql rfl rfl rfl) ?_
        refine l_q (q_pick_t (v := .bool _) rfl rfl rfl) ?_
        refine l_q (q_move (v := .bool _) rfl rfl) ?_
        have hk46 : (decide (((errs s r).1) = 0)) = true := by rw [he]; simp
        refine l_part 62 rfl (fun _ => ?_) (fun hx => absurd (hk46.symm.trans hx) (by decide))
        refine l_q (q_move (v := .slice _ _ _) rfl rfl) ?_
        refine l_q (q_len rfl Try.underlying25 rfl rfl) ?_
        refine l_q (q_eql rfl rfl rfl) ?_
        refine l_q (q_pick_t (v := .bool _) rfl rfl rfl) ?_
        refine l_q (q_move (v := .bool _) rfl rfl) ?_
        have hk47 : (decide (((exL s r).length : Int) = 0)) = true := by rw [hx]; rfl
        refine l_part 67 rfl (fun _ => ?_) (fun hx => absurd (hk47.symm.trans hx) (by decide))
        refine l_o (o_call Try.call18 rfl (awake_ret _) rfl ?_)
        rintro _ w48 ⟨rfl, hE48⟩
        replace hB := below_ext hB hE48 hsz
        replace ho12_0 := own_ext ho12_0 hE48
        replace hsz := Nat.le_trans hsz hE48.size
        refine l_q (q_pick_t (v := .bool _) rfl rfl rfl) ?_
        refine l_q (q_assign (v := .bool _) rfl rfl) ?_
        refine l_nil ?_
        refine r_forget [(4, .bool _)] ⟨rfl, trivial⟩ (fun e49 => ?_)
        refine r_ret_ (vs := [.bool _]) rfl Try.func4 rfl (.nil _) ⟨rfl, trivial⟩ ?_
        exact ⟨rfl, Ext.of_below hB⟩
end Go.Proofs.Ytkcbgpilfegofaa
