/- Contracts. -/
import Derived.Test.YtkcbgpilfegofaaE1
set_option linter.unusedVariables false
set_option linter.unusedSimpArgs false
namespace Go.Proofs.Ytkcbgpilfegofaa
open Go Go.RowKit Go.Gv Go.Fl


theorem flashJoined_ret (a b x y : Sg) (w : World) (ha : a.length ≤ 1048576) (hb : b.length ≤ 1048576) (hx : x.length ≤ 1048576) (hy : y.length ≤ 1048576) : Ret Try.prog 9 [vstr a, vstr b, vstr x, vstr y] w (fun v w' => v = .bool true ∧ Ext w w') := by
  have hB := Below.refl w.heap.size w
  have hsz : w.heap.size ≤ w.heap.size := Nat.le_refl _
  refine ret_of_runs (args := [_, _, _, _]) Try.func9 rfl (Nat.le_of_ble_eq_true rfl) (by kernel_rfl) ?_
  refine r_seq ?_
  refine r_region' ?_
  refine l_q (q_assign (v := .bool _) rfl rfl) ?_
  refine l_nil ?_
  refine r_forget [(0, .string _), (1, .string _), (2, .string _), (3, .string _)] ⟨rfl, rfl, rfl, rfl, trivial⟩ (fun e1 => ?_)
  refine r_seq ?_
  refine r_seq ?_
  refine r_region' ?_
  refine l_q (q_move (v := .string _) rfl rfl) ?_
  refine l_q (q_move (v := .string _) rfl rfl) ?_
  refine l_q (q_add_str rfl rfl (by omega) rfl) ?_
  refine l_q (q_move (v := .string _) rfl rfl) ?_
  refine l_q (q_move (v := .string _) rfl rfl) ?_
  refine l_q (q_add_str rfl rfl (by omega) rfl) ?_
  refine l_o (o_call Try.call28 rfl (signed_ret (a ++ b) (x ++ y) _ (by rw [List.length_append]; omega) (by rw [List.length_append]; omega)) rfl ?_)
  rintro _ w2 ⟨rfl, rfl⟩
  refine l_q (q_neq rfl rfl rfl) ?_
  refine l_nil ?_
  refine r_forget [(0, .string _), (1, .string _), (2, .string _), (3, .string _), (22, .bool _)] ⟨rfl, rfl, rfl, rfl, rfl, trivial⟩ (fun e3 => ?_)
  refine r_cond rfl (fun hc4 => ?_) (fun hc4 => ?_)
  · skip
    try simp only [decide_eq_true_eq, decide_eq_false_iff_not, Bool.not_eq_true', Bool.not_eq_false', Bool.not_not, Bool.not_true, Bool.not_false, Bool.not_eq_true, Bool.not_eq_false, Int.not_lt, Int.not_le, Bool.and_eq_true, Bool.or_eq_true, Bool.and_eq_false_iff, Bool.or_eq_false_iff] at hc4
    refine r_seq ?_
    refine r_region' ?_
    refine l_o (o_call Try.call18 rfl (awake_ret _) rfl ?_)
    rintro _ w5 ⟨rfl, hE5⟩
    replace hB := below_ext hB hE5 hsz
    replace hsz := Nat.le_trans hsz hE5.size
    refine l_q (q_assign (v := .bool _) rfl rfl) ?_
    refine l_nil ?_
    refine r_forget [(8, .bool _)] ⟨rfl, trivial⟩ (fun e6 => ?_)
    refine r_ret_ (vs := [.bool _]) rfl Try.func9 rfl (.nil _) ⟨rfl, trivial⟩ ?_
    exact ⟨rfl, Ext.of_below hB⟩
  · skip
    try simp only [decide_eq_true_eq, decide_eq_false_iff_not, Bool.not_eq_true', Bool.not_eq_false', Bool.not_not, Bool.not_true, Bool.not_false, Bool.not_eq_true, Bool.not_eq_false, Int.not_lt, Int.not_le, Bool.and_eq_true, Bool.or_eq_true, Bool.and_eq_false_iff, Bool.or_eq_false_iff] at hc4
    have hsf : signsFault (a ++ b) (x ++ y) = 0 := by simpa using hc4
    have hj := sf_join hsf
    have h1 := errs_two hj.1
    have h2 := errs_two hj.2
    have h3 := errs_two hsf
    have hb1 := errs_bounds a x
    have hb2 := errs_bounds b y
    refine r_skip ?_
    refine r_seq ?_
    refine r_region' ?_
    refine l_q (q_move (v := .string _) rfl rfl) ?_
    refine l_q (q_move (v := .string _) rfl rfl) ?_
    refine l_o (o_call Try.call26 rfl (errors_ret a x _ (by omega) (by omega)) rfl ?_)
    rintro _ w7 ⟨rfl, hE7⟩
    replace hB := below_ext hB hE7 hsz
    replace hsz := Nat.le_trans hsz hE7.size
    refine l_q (q_move (v := .tuple _) rfl rfl) ?_
    refine l_q (q_extract (vs := [_, _]) (v := .int _ _) rfl rfl rfl) ?_
    refine l_q (q_extract (vs := [_, _]) (v := .int _ _) rfl rfl rfl) ?_
    refine l_q (q_assign (v := .int _ _) rfl rfl) ?_
    refine l_q (q_assign (v := .int _ _) rfl rfl) ?_
    refine l_nil ?_
    refine r_forget [(0, .string _), (1, .string _), (2, .string _), (3, .string _), (9, .int _ _), (10, .int _ _)] ⟨rfl, rfl, rfl, rfl, rfl, rfl, trivial⟩ (fun e8 => ?_)
    refine r_seq ?_
    refine r_region' ?_
    refine l_q (q_move (v := .string _) rfl rfl) ?_
    refine l_q (q_move (v := .string _) rfl rfl) ?_
    refine l_o (o_call Try.call26 rfl (errors_ret b y _ (by omega) (by omega)) rfl ?_)
    rintro _ w9 ⟨rfl, hE9⟩
    replace hB := below_ext hB hE9 hsz
    replace hsz := Nat.le_trans hsz hE9.size
    refine l_q (q_move (v := .tuple _) rfl rfl) ?_
    refine l_q (q_extract (vs := [_, _]) (v := .int _ _) rfl rfl rfl) ?_
    refine l_q (q_extract (vs := [_, _]) (v := .int _ _) rfl rfl rfl) ?_
    refine l_q (q_assign (v := .int _ _) rfl rfl) ?_
    refine l_q (q_assign (v := .int _ _) rfl rfl) ?_
    refine l_nil ?_
    refine r_forget [(0, .string _), (1, .string _), (2, .string _), (3, .string _), (9, .int _ _), (10, .int _ _), (11, .int _ _), (12, .int _ _)] ⟨rfl, rfl, rfl, rfl, rfl, rfl, rfl, rfl, trivial⟩ (fun e10 => ?_)
    refine r_seq ?_
    refine r_region' ?_
    refine l_q (q_move (v := .string _) rfl rfl) ?_
    refine l_q (q_move (v := .string _) rfl rfl) ?_
    refine l_q (q_add_str rfl rfl (by omega) rfl) ?_
    refine l_q (q_move (v := .string _) rfl rfl) ?_
    refine l_q (q_move (v := .string _) rfl rfl) ?_
    refine l_q (q_add_str rfl rfl (by omega) rfl) ?_
    refine l_o (o_call Try.call26 rfl (errors_ret (a ++ b) (x ++ y) _ (by rw [List.length_append]; omega) (by rw [List.length_append]; omega)) rfl ?_)
    rintro _ w11 ⟨rfl, hE11⟩
    replace hB := below_ext hB hE11 hsz
    replace hsz := Nat.le_trans hsz hE11.size
    refine l_q (q_move (v := .tuple _) rfl rfl) ?_
    refine l_q (q_extract (vs := [_, _]) (v := .int _ _) rfl rfl rfl) ?_
    refine l_q (q_extract (vs := [_, _]) (v := .int _ _) rfl rfl rfl) ?_
    refine l_q (q_assign (v := .int _ _) rfl rfl) ?_
    refine l_q (q_assign (v := .int _ _) rfl rfl) ?_
    refine l_nil ?_
    refine r_forget [(9, .int _ _), (10, .int _ _), (11, .int _ _), (12, .int _ _), (13, .int _ _), (14, .int _ _)] ⟨rfl, rfl, rfl, rfl, rfl, rfl, trivial⟩ (fun e12 => ?_)
    refine r_seq ?_
    refine r_seq ?_
    refine r_region' ?_
    refine l_q (q_move (v := .int _ _) rfl rfl) ?_
    refine l_q (q_neq rfl rfl rfl) ?_
    refine l_q (q_move (v := .bool _) rfl rfl) ?_
    refine l_part 48 rfl (fun hc13 => ?_) (fun hc13 => ?_)
    · skip
      try simp only [decide_eq_true_eq, decide_eq_false_iff_not, Bool.not_eq_true', Bool.not_eq_false', Bool.not_not, Bool.not_true, Bool.not_false, Bool.not_eq_true, Bool.not_eq_false, Int.not_lt, Int.not_le, Bool.and_eq_true, Bool.or_eq_true, Bool.and_eq_false_iff, Bool.or_eq_false_iff] at hc13
      refine l_q (q_skip rfl) ?_
      refine l_q (q_skip rfl) ?_
      refine l_q (q_pick_t (v := .bool _) rfl rfl rfl) ?_
      refine l_nil ?_
      refine r_forget [(9, .int _ _), (10, .int _ _), (11, .int _ _), (12, .int _ _), (13, .int _ _), (14, .int _ _), (51, .bool _)] ⟨rfl, rfl, rfl, rfl, rfl, rfl, rfl, trivial⟩ (fun e14 => ?_)
      refine r_cond_t rfl ?_
      refine r_seq ?_
      refine r_region' ?_
      refine l_q (q_move (v := .int _ _) rfl rfl) ?_
      refine l_q (q_eql rfl rfl rfl) ?_
      refine l_q (q_move (v := .bool _) rfl rfl) ?_
      refine l_part 54 rfl (fun hc15 => ?_) (fun hc15 => ?_)
      · skip
        try simp only [decide_eq_true_eq, decide_eq_false_iff_not, Bool.not_eq_true', Bool.not_eq_false', Bool.not_not, Bool.not_true, Bool.not_false, Bool.not_eq_true, Bool.not_eq_false, Int.not_lt, Int.not_le, Bool.and_eq_true, Bool.or_eq_true, Bool.and_eq_false_iff, Bool.or_eq_false_iff] at hc15
        refine l_q (q_skip rfl) ?_
        refine l_q (q_skip rfl) ?_
        refine l_q (q_pick_t (v := .bool _) rfl rfl rfl) ?_
        refine l_q (q_move (v := .bool _) rfl rfl) ?_
        refine l_q (q_move (v := .int _ _) rfl rfl) ?_
        refine l_q (q_eql rfl rfl rfl) ?_
        refine l_q (q_move (v := .bool _) rfl rfl) ?_
        refine l_part 61 rfl (fun hc16 => ?_) (fun hc16 => ?_)
        · skip
          try simp only [decide_eq_true_eq, decide_eq_false_iff_not, Bool.not_eq_true', Bool.not_eq_false', Bool.not_not, Bool.not_true, Bool.not_false, Bool.not_eq_true, Bool.not_eq_false, Int.not_lt, Int.not_le, Bool.and_eq_true, Bool.or_eq_true, Bool.and_eq_false_iff, Bool.or_eq_false_iff] at hc16
          refine l_q (q_skip rfl) ?_
          refine l_q (q_skip rfl) ?_
          refine l_q (q_pick_t (v := .bool _) rfl rfl rfl) ?_
          refine l_q (q_pick_t (v := .bool _) rfl rfl rfl) ?_
          refine l_q (q_move (v := .bool _) rfl rfl) ?_
          refine l_q (q_move (v := .int _ _) rfl rfl) ?_
          refine l_q (q_eql rfl rfl rfl) ?_
          refine l_q (q_move (v := .bool _) rfl rfl) ?_
          refine l_part 69 rfl (fun hc17 => ?_) (fun hc17 => ?_)
          · skip
            try simp only [decide_eq_true_eq, decide_eq_false_iff_not, Bool.not_eq_true', Bool.not_eq_false', Bool.not_not, Bool.not_true, Bool.not_false, Bool.not_eq_true, Bool.not_eq_false, Int.not_lt, Int.not_le, Bool.and_eq_true, Bool.or_eq_true, Bool.and_eq_false_iff, Bool.or_eq_false_iff] at hc17
            refine l_q (q_skip rfl) ?_
            refine l_q (q_skip rfl) ?_
            refine l_q (q_pick_t (v := .bool _) rfl rfl rfl) ?_
            refine l_q (q_pick_t (v := .bool _) rfl rfl rfl) ?_
            refine l_q (q_move (v := .bool _) rfl rfl) ?_
            refine l_o (o_call Try.call18 rfl (awake_ret _) rfl ?_)
            rintro _ w18 ⟨rfl, hE18⟩
            replace hB := below_ext hB hE18 hsz
            replace hsz := Nat.le_trans hsz hE18.size
            refine l_q (q_pick_t (v := .bool _) rfl rfl rfl) ?_
            refine l_q (q_assign (v := .bool _) rfl rfl) ?_
            refine l_nil ?_
            refine r_forget [(8, .bool _)] ⟨rfl, trivial⟩ (fun e19 => ?_)
            refine r_ret_ (vs := [.bool _]) rfl Try.func9 rfl (.nil _) ⟨rfl, trivial⟩ ?_
            exact ⟨rfl, Ext.of_below hB⟩
          · skip
            try simp only [decide_eq_true_eq, decide_eq_false_iff_not, Bool.not_eq_true', Bool.not_eq_false', Bool.not_not, Bool.not_true, Bool.not_false, Bool.not_eq_true, Bool.not_eq_false, Int.not_lt, Int.not_le, Bool.and_eq_true, Bool.or_eq_true, Bool.and_eq_false_iff, Bool.or_eq_false_iff] at hc17
            refine l_q (q_move (v := .int _ _) rfl rfl) ?_
            refine l_q (q_eql rfl rfl rfl) ?_
            refine l_q (q_pick_f (v := .bool _) rfl rfl rfl) ?_
            refine l_q (q_pick_t (v := .bool _) rfl rfl rfl) ?_
            refine l_q (q_move (v := .bool _) rfl rfl) ?_
            have hk20 : (decide (((errs (a ++ b) (x ++ y)).2) = 11)) = true := by rw [decide_eq_true_eq]; omega
            refine l_part 74 rfl (fun _ => ?_) (fun hx => absurd (hk20.symm.trans hx) (by decide))
            refine l_o (o_call Try.call18 rfl (awake_ret _) rfl ?_)
            rintro _ w21 ⟨rfl, hE21⟩
            replace hB := below_ext hB hE21 hsz
            replace hsz := Nat.le_trans hsz hE21.size
            refine l_q (q_pick_t (v := .bool _) rfl rfl rfl) ?_
            refine l_q (q_assign (v := .bool _) rfl rfl) ?_
            refine l_nil ?_
            refine r_forget [(8, .bool _)] ⟨rfl, trivial⟩ (fun e22 => ?_)
            refine r_ret_ (vs := [.bool _]) rfl Try.func9 rfl (.nil _) ⟨rfl, trivial⟩ ?_
            exact ⟨rfl, Ext.of_below hB⟩
        · skip
          try simp only [decide_eq_true_eq, decide_eq_false_iff_not, Bool.not_eq_true', Bool.not_eq_false', Bool.not_not, Bool.not_true, Bool.not_false, Bool.not_eq_true, Bool.not_eq_false, Int.not_lt, Int.not_le, Bool.and_eq_true, Bool.or_eq_true, Bool.and_eq_false_iff, Bool.or_eq_false_iff] at hc16
          refine l_q (q_move (v := .int _ _) rfl rfl) ?_
          refine l_q (q_eql rfl rfl rfl) ?_
          refine l_q (q_pick_f (v := .bool _) rfl rfl rfl) ?_
          refine l_q (q_pick_t (v := .bool _) rfl rfl rfl) ?_
          refine l_q (q_move (v := .bool _) rfl rfl) ?_
          have hk23 : (decide (((errs b y).2) = 11)) = true := by rw [decide_eq_true_eq]; omega
          refine l_part 66 rfl (fun _ => ?_) (fun hx => absurd (hk23.symm.trans hx) (by decide))
          refine l_q (q_move (v := .int _ _) rfl rfl) ?_
          refine l_q (q_eql rfl rfl rfl) ?_
          refine l_q (q_move (v := .bool _) rfl rfl) ?_
          refine l_part 69 rfl (fun hc24 => ?_) (fun hc24 => ?_)
          · skip
            try simp only [decide_eq_true_eq, decide_eq_false_iff_not, Bool.not_eq_true', Bool.not_eq_false', Bool.not_not, Bool.not_true, Bool.not_false, Bool.not_eq_true, Bool.not_eq_false, Int.not_lt, Int.not_le, Bool.and_eq_true, Bool.or_eq_true, Bool.and_eq_false_iff, Bool.or_eq_false_iff] at hc24
            refine l_q (q_skip rfl) ?_
            refine l_q (q_skip rfl) ?_
            refine l_q (q_pick_t (v := .bool _) rfl rfl rfl) ?_
            refine l_q (q_pick_t (v := .bool _) rfl rfl rfl) ?_
            refine l_q (q_move (v := .bool _) rfl rfl) ?_
            refine l_o (o_call Try.call18 rfl (awake_ret _) rfl ?_)
            rintro _ w25 ⟨rfl, hE25⟩
            replace hB := below_ext hB hE25 hsz
            replace hsz := Nat.le_trans hsz hE25.size
            refine l_q (q_pick_t (v := .bool _) rfl rfl rfl) ?_
            refine l_q (q_assign (v := .bool _) rfl rfl) ?_
            refine l_nil ?_
            refine r_forget [(8, .bool _)] ⟨rfl, trivial⟩ (fun e26 => ?_)
            refine r_ret_ (vs := [.bool _]) rfl Try.func9 rfl (.nil _) ⟨rfl, trivial⟩ ?_
            exact ⟨rfl, Ext.of_below hB⟩
          · skip
            try simp only [decide_eq_true_eq, decide_eq_false_iff_not, Bool.not_eq_true', Bool.not_eq_false', Bool.not_not, Bool.not_true, Bool.not_false, Bool.not_eq_true, Bool.not_eq_false, Int.not_lt, Int.not_le, Bool.and_eq_true, Bool.or_eq_true, Bool.and_eq_false_iff, Bool.or_eq_false_iff] at hc24
            refine l_q (q_move (v := .int _ _) rfl rfl) ?_
            refine l_q (q_eql rfl rfl rfl) ?_
            refine l_q (q_pick_f (v := .bool _) rfl rfl rfl) ?_
            refine l_q (q_pick_t (v := .bool _) rfl rfl rfl) ?_
            refine l_q (q_move (v := .bool _) rfl rfl) ?_
            have hk27 : (decide (((errs (a ++ b) (x ++ y)).2) = 11)) = true := by rw [decide_eq_true_eq]; omega
            refine l_part 74 rfl (fun _ => ?_) (fun hx => absurd (hk27.symm.trans hx) (by decide))
            refine l_o (o_call Try.call18 rfl (awake_ret _) rfl ?_)
            rintro _ w28 ⟨rfl, hE28⟩
            replace hB := below_ext hB hE28 hsz
            replace hsz := Nat.le_trans hsz hE28.size
            refine l_q (q_pick_t (v := .bool _) rfl rfl rfl) ?_
            refine l_q (q_assign (v := .bool _) rfl rfl) ?_
            refine l_nil ?_
            refine r_forget [(8, .bool _)] ⟨rfl, trivial⟩ (fun e29 => ?_)
            refine r_ret_ (vs := [.bool _]) rfl Try.func9 rfl (.nil _) ⟨rfl, trivial⟩ ?_
            exact ⟨rfl, Ext.of_below hB⟩
      · skip
        try simp only [decide_eq_true_eq, decide_eq_false_iff_not, Bool.not_eq_true', Bool.not_eq_false', Bool.not_not, Bool.not_true, Bool.not_false, Bool.not_eq_true, Bool.not_eq_false, Int.not_lt, Int.not_le, Bool.and_eq_true, Bool.or_eq_true, Bool.and_eq_false_iff, Bool.or_eq_false_iff] at hc15
        refine l_q (q_move (v := .int _ _) rfl rfl) ?_
        refine l_q (q_eql rfl rfl rfl) ?_
        refine l_q (q_pick_f (v := .bool _) rfl rfl rfl) ?_
        refine l_q (q_move (v := .bool _) rfl rfl) ?_
        have hk30 : (decide (((errs a x).2) = 11)) = true := by rw [decide_eq_true_eq]; omega
        refine l_part 58 rfl (fun _ => ?_) (fun hx => absurd (hk30.symm.trans hx) (by decide))
        refine l_q (q_move (v := .int _ _) rfl rfl) ?_
        refine l_q (q_eql rfl rfl rfl) ?_
        refine l_q (q_move (v := .bool _) rfl rfl) ?_
        refine l_part 61 rfl (fun hc31 => ?_) (fun hc31 => ?_)
        · skip
          try simp only [decide_eq_true_eq, decide_eq_false_iff_not, Bool.not_eq_true', Bool.not_eq_false', Bool.not_not, Bool.not_true, Bool.not_false, Bool.not_eq_true, Bool.not_eq_false, Int.not_lt, Int.not_le, Bool.and_eq_true, Bool.or_eq_true, Bool.and_eq_false_iff, Bool.or_eq_false_iff] at hc31
          refine l_q (q_skip rfl) ?_
          refine l_q (q_skip rfl) ?_
          refine l_q (q_pick_t (v := .bool _) rfl rfl rfl) ?_
          refine l_q (q_pick_t (v := .bool _) rfl rfl rfl) ?_
          refine l_q (q_move (v := .bool _) rfl rfl) ?_
          refine l_q (q_move (v := .int _ _) rfl rfl) ?_
          refine l_q (q_eql rfl rfl rfl) ?_
          refine l_q (q_move (v := .bool _) rfl rfl) ?_
          refine l_part 69 rfl (fun hc32 => ?_) (fun hc32 => ?_)
          · skip
            try simp only [decide_eq_true_eq, decide_eq_false_iff_not, Bool.not_eq_true', Bool.not_eq_false', Bool.not_not, Bool.not_true, Bool.not_false, Bool.not_eq_true, Bool.not_eq_false, Int.not_lt, Int.not_le, Bool.and_eq_true, Bool.or_eq_true, Bool.and_eq_false_iff, Bool.or_eq_false_iff] at hc32
            refine l_q (q_skip rfl) ?_
            refine l_q (q_skip rfl) ?_
            refine l_q (q_pick_t (v := .bool _) rfl rfl rfl) ?_
            refine l_q (q_pick_t (v := .bool _) rfl rfl rfl) ?_
            refine l_q (q_move (v := .bool _) rfl rfl) ?_
            refine l_o (o_call Try.call18 rfl (awake_ret _) rfl ?_)
            rintro _ w33 ⟨rfl, hE33⟩
            replace hB := below_ext hB hE33 hsz
            replace hsz := Nat.le_trans hsz hE33.size
            refine l_q (q_pick_t (v := .bool _) rfl rfl rfl) ?_
            refine l_q (q_assign (v := .bool _) rfl rfl) ?_
            refine l_nil ?_
            refine r_forget [(8, .bool _)] ⟨rfl, trivial⟩ (fun e34 => ?_)
            refine r_ret_ (vs := [.bool _]) rfl Try.func9 rfl (.nil _) ⟨rfl, trivial⟩ ?_
            exact ⟨rfl, Ext.of_below hB⟩
          · skip
            try simp only [decide_eq_true_eq, decide_eq_false_iff_not, Bool.not_eq_true', Bool.not_eq_false', Bool.not_not, Bool.not_true, Bool.not_false, Bool.not_eq_true, Bool.not_eq_false, Int.not_lt, Int.not_le, Bool.and_eq_true, Bool.or_eq_true, Bool.and_eq_false_iff, Bool.or_eq_false_iff] at hc32
            refine l_q (q_move (v := .int _ _) rfl rfl) ?_
            refine l_q (q_eql rfl rfl rfl) ?_
            refine l_q (q_pick_f (v := .bool _) rfl rfl rfl) ?_
            refine l_q (q_pick_t (v := .bool _) rfl rfl rfl) ?_
            refine l_q (q_move (v := .bool _) rfl rfl) ?_
            have hk35 : (decide (((errs (a ++ b) (x ++ y)).2) = 11)) = true := by rw [decide_eq_true_eq]; omega
            refine l_part 74 rfl (fun _ => ?_) (fun hx => absurd (hk35.symm.trans hx) (by decide))
            refine l_o (o_call Try.call18 rfl (awake_ret _) rfl ?_)
            rintro _ w36 ⟨rfl, hE36⟩
            replace hB := below_ext hB hE36 hsz
            replace hsz := Nat.le_trans hsz hE36.size
            refine l_q (q_pick_t (v := .bool _) rfl rfl rfl) ?_
            refine l_q (q_assign (v := .bool _) rfl rfl) ?_
            refine l_nil ?_
            refine r_forget [(8, .bool _)] ⟨rfl, trivial⟩ (fun e37 => ?_)
            refine r_ret_ (vs := [.bool _]) rfl Try.func9 rfl (.nil _) ⟨rfl, trivial⟩ ?_
            exact ⟨rfl, Ext.of_below hB⟩
        · skip
          try simp only [decide_eq_true_eq, decide_eq_false_iff_not, Bool.not_eq_true', Bool.not_eq_false', Bool.not_not, Bool.not_true, Bool.not_false, Bool.not_eq_true, Bool.not_eq_false, Int.not_lt, Int.not_le, Bool.and_eq_true, Bool.or_eq_true, Bool.and_eq_false_iff, Bool.or_eq_false_iff] at hc31
          refine l_q (q_move (v := .int _ _) rfl rfl) ?_
          refine l_q (q_eql rfl rfl rfl) ?_
          refine l_q (q_pick_f (v := .bool _) rfl rfl rfl) ?_
          refine l_q (q_pick_t (v := .bool _) rfl rfl rfl) ?_
          refine l_q (q_move (v := .bool _) rfl rfl) ?_
          have hk38 : (decide (((errs b y).2) = 11)) = true := by rw [decide_eq_true_eq]; omega
          refine l_part 66 rfl (fun _ => ?_) (fun hx => absurd (hk38.symm.trans hx) (by decide))
          refine l_q (q_move (v := .int _ _) rfl rfl) ?_
          refine l_q (q_eql rfl rfl rfl) ?_
          refine l_q (q_move (v := .bool _) rfl rfl) ?_
          refine l_part 69 rfl (fun hc39 => ?_) (fun hc39 => ?_)
          · skip
            try simp only [decide_eq_true_eq, decide_eq_false_iff_not, Bool.not_eq_true', Bool.not_eq_false', Bool.not_not, Bool.not_true, Bool.not_false, Bool.not_eq_true, Bool.not_eq_false, Int.not_lt, Int.not_le, Bool.and_eq_true, Bool.or_eq_true, Bool.and_eq_false_iff, Bool.or_eq_false_iff] at hc39
            refine l_q (q_skip rfl) ?_
            refine l_q (q_skip rfl) ?_
            refine l_q (q_pick_t (v := .bool _) rfl rfl rfl) ?_
            refine l_q (q_pick_t (v := .bool _) rfl rfl rfl) ?_
            refine l_q (q_move (v := .bool _) rfl rfl) ?_
            refine l_o (o_call Try.call18 rfl (awake_ret _) rfl ?_)
            rintro _ w40 ⟨rfl, hE40⟩
            replace hB := below_ext hB hE40 hsz
            replace hsz := Nat.le_trans hsz hE40.size
            refine l_q (q_pick_t (v := .bool _) rfl rfl rfl) ?_
            refine l_q (q_assign (v := .bool _) rfl rfl) ?_
            refine l_nil ?_
            refine r_forget [(8, .bool _)] ⟨rfl, trivial⟩ (fun e41 => ?_)
            refine r_ret_ (vs := [.bool _]) rfl Try.func9 rfl (.nil _) ⟨rfl, trivial⟩ ?_
            exact ⟨rfl, Ext.of_below hB⟩
          · skip
            try simp only [decide_eq_true_eq, decide_eq_false_iff_not, Bool.not_eq_true', Bool.not_eq_false', Bool.not_not, Bool.not_true, Bool.not_false, Bool.not_eq_true, Bool.not_eq_false, Int.not_lt, Int.not_le, Bool.and_eq_true, Bool.or_eq_true, Bool.and_eq_false_iff, Bool.or_eq_false_iff] at hc39
            refine l_q (q_move (v := .int _ _) rfl rfl) ?_
            refine l_q (q_eql rfl rfl rfl) ?_
            refine l_q (q_pick_f (v := .bool _) rfl rfl rfl) ?_
            refine l_q (q_pick_t (v := .bool _) rfl rfl rfl) ?_
            refine l_q (q_move (v := .bool _) rfl rfl) ?_
            have hk42 : (decide (((errs (a ++ b) (x ++ y)).2) = 11)) = true := by rw [decide_eq_true_eq]; omega
            refine l_part 74 rfl (fun _ => ?_) (fun hx => absurd (hk42.symm.trans hx) (by decide))
            refine l_o (o_call Try.call18 rfl (awake_ret _) rfl ?_)
            rintro _ w43 ⟨rfl, hE43⟩
            replace hB := below_ext hB hE43 hsz
            replace hsz := Nat.le_trans hsz hE43.size
            refine l_q (q_pick_t (v := .bool _) rfl rfl rfl) ?_
            refine l_q (q_assign (v := .bool _) rfl rfl) ?_
            refine l_nil ?_
            refine r_forget [(8, .bool _)] ⟨rfl, trivial⟩ (fun e44 => ?_)
            refine r_ret_ (vs := [.bool _]) rfl Try.func9 rfl (.nil _) ⟨rfl, trivial⟩ ?_
            exact ⟨rfl, Ext.of_below hB⟩
    · skip
      try simp only [decide_eq_true_eq, decide_eq_false_iff_not, Bool.not_eq_true', Bool.not_eq_false', Bool.not_not, Bool.not_true, Bool.not_false, Bool.not_eq_true, Bool.not_eq_false, Int.not_lt, Int.not_le, Bool.and_eq_true, Bool.or_eq_true, Bool.and_eq_false_iff, Bool.or_eq_false_iff] at hc13
      refine l_q (q_move (v := .int _ _) rfl rfl) ?_
      refine l_q (q_neq rfl rfl rfl) ?_
      refine l_q (q_pick_f (v := .bool _) rfl rfl rfl) ?_
      refine l_nil ?_
      refine r_forget [(9, .int _ _), (10, .int _ _), (11, .int _ _), (12, .int _ _), (13, .int _ _), (14, .int _ _), (51, .bool _)] ⟨rfl, rfl, rfl, rfl, rfl, rfl, rfl, trivial⟩ (fun e45 => ?_)
      refine r_cond rfl (fun hc46 => ?_) (fun hc46 => ?_)
      · skip
        try simp only [decide_eq_true_eq, decide_eq_false_iff_not, Bool.not_eq_true', Bool.not_eq_false', Bool.not_not, Bool.not_true, Bool.not_false, Bool.not_eq_true, Bool.not_eq_false, Int.not_lt, Int.not_le, Bool.and_eq_true, Bool.or_eq_true, Bool.and_eq_false_iff, Bool.or_eq_false_iff] at hc46
        refine r_seq ?_
        refine r_region' ?_
        refine l_q (q_move (v := .int _ _) rfl rfl) ?_
        refine l_q (q_eql rfl rfl rfl) ?_
        refine l_q (q_move (v := .bool _) rfl rfl) ?_
        refine l_part 54 rfl (fun hc47 => ?_) (fun hc47 => ?_)
        · skip
          try simp only [decide_eq_true_eq, decide_eq_false_iff_not, Bool.not_eq_true', Bool.not_eq_false', Bool.not_not, Bool.not_true, Bool.not_false, Bool.not_eq_true, Bool.not_eq_false, Int.not_lt, Int.not_le, Bool.and_eq_true, Bool.or_eq_true, Bool.and_eq_false_iff, Bool.or_eq_false_iff] at hc47
          refine l_q (q_skip rfl) ?_
          refine l_q (q_skip rfl) ?_
          refine l_q (q_pick_t (v := .bool _) rfl rfl rfl) ?_
          refine l_q (q_move (v := .bool _) rfl rfl) ?_
          refine l_q (q_move (v := .int _ _) rfl rfl) ?_
          refine l_q (q_eql rfl rfl rfl) ?_
          refine l_q (q_move (v := .bool _) rfl rfl) ?_
          refine l_part 61 rfl (fun hc48 => ?_) (fun hc48 => ?_)
          · skip
            try simp only [decide_eq_true_eq, decide_eq_false_iff_not, Bool.not_eq_true', Bool.not_eq_false', Bool.not_not, Bool.not_true, Bool.not_false, Bool.not_eq_true, Bool.not_eq_false, Int.not_lt, Int.not_le, Bool.and_eq_true, Bool.or_eq_true, Bool.and_eq_false_iff, Bool.or_eq_false_iff] at hc48
            refine l_q (q_skip rfl) ?_
            refine l_q (q_skip rfl) ?_
            refine l_q (q_pick_t (v := .bool _) rfl rfl rfl) ?_
            refine l_q (q_pick_t (v := .bool _) rfl rfl rfl) ?_
            refine l_q (q_move (v := .bool _) rfl rfl) ?_
            refine l_q (q_move (v := .int _ _) rfl rfl) ?_
            refine l_q (q_eql rfl rfl rfl) ?_
            refine l_q (q_move (v := .bool _) rfl rfl) ?_
            refine l_part 69 rfl (fun hc49 => ?_) (fun hc49 => ?_)
            · skip
              try simp only [decide_eq_true_eq, decide_eq_false_iff_not, Bool.not_eq_true', Bool.not_eq_false', Bool.not_not, Bool.not_true, Bool.not_false, Bool.not_eq_true, Bool.not_eq_false, Int.not_lt, Int.not_le, Bool.and_eq_true, Bool.or_eq_true, Bool.and_eq_false_iff, Bool.or_eq_false_iff] at hc49
              refine l_q (q_skip rfl) ?_
              refine l_q (q_skip rfl) ?_
              refine l_q (q_pick_t (v := .bool _) rfl rfl rfl) ?_
              refine l_q (q_pick_t (v := .bool _) rfl rfl rfl) ?_
              refine l_q (q_move (v := .bool _) rfl rfl) ?_
              refine l_o (o_call Try.call18 rfl (awake_ret _) rfl ?_)
              rintro _ w50 ⟨rfl, hE50⟩
              replace hB := below_ext hB hE50 hsz
              replace hsz := Nat.le_trans hsz hE50.size
              refine l_q (q_pick_t (v := .bool _) rfl rfl rfl) ?_
              refine l_q (q_assign (v := .bool _) rfl rfl) ?_
              refine l_nil ?_
              refine r_forget [(8, .bool _)] ⟨rfl, trivial⟩ (fun e51 => ?_)
              refine r_ret_ (vs := [.bool _]) rfl Try.func9 rfl (.nil _) ⟨rfl, trivial⟩ ?_
              exact ⟨rfl, Ext.of_below hB⟩
            · skip
              try simp only [decide_eq_true_eq, decide_eq_false_iff_not, Bool.not_eq_true', Bool.not_eq_false', Bool.not_not, Bool.not_true, Bool.not_false, Bool.not_eq_true, Bool.not_eq_false, Int.not_lt, Int.not_le, Bool.and_eq_true, Bool.or_eq_true, Bool.and_eq_false_iff, Bool.or_eq_false_iff] at hc49
              refine l_q (q_move (v := .int _ _) rfl rfl) ?_
              refine l_q (q_eql rfl rfl rfl) ?_
              refine l_q (q_pick_f (v := .bool _) rfl rfl rfl) ?_
              refine l_q (q_pick_t (v := .bool _) rfl rfl rfl) ?_
              refine l_q (q_move (v := .bool _) rfl rfl) ?_
              have hk52 : (decide (((errs (a ++ b) (x ++ y)).2) = 11)) = true := by rw [decide_eq_true_eq]; omega
              refine l_part 74 rfl (fun _ => ?_) (fun hx => absurd (hk52.symm.trans hx) (by decide))
              refine l_o (o_call Try.call18 rfl (awake_ret _) rfl ?_)
              rintro _ w53 ⟨rfl, hE53⟩
              replace hB := below_ext hB hE53 hsz
              replace hsz := Nat.le_trans hsz hE53.size
              refine l_q (q_pick_t (v := .bool _) rfl rfl rfl) ?_
              refine l_q (q_assign (v := .bool _) rfl rfl) ?_
              refine l_nil ?_
              refine r_forget [(8, .bool _)] ⟨rfl, trivial⟩ (fun e54 => ?_)
              refine r_ret_ (vs := [.bool _]) rfl Try.func9 rfl (.nil _) ⟨rfl, trivial⟩ ?_
              exact ⟨rfl, Ext.of_below hB⟩
          · skip
            try simp only [decide_eq_true_eq, decide_eq_false_iff_not, Bool.not_eq_true', Bool.not_eq_false', Bool.not_not, Bool.not_true, Bool.not_false, Bool.not_eq_true, Bool.not_eq_false, Int.not_lt, Int.not_le, Bool.and_eq_true, Bool.or_eq_true, Bool.and_eq_false_iff, Bool.or_eq_false_iff] at hc48
            refine l_q (q_move (v := .int _ _) rfl rfl) ?_
            refine l_q (q_eql rfl rfl rfl) ?_
            refine l_q (q_pick_f (v := .bool _) rfl rfl rfl) ?_
            refine l_q (q_pick_t (v := .bool _) rfl rfl rfl) ?_
            refine l_q (q_move (v := .bool _) rfl rfl) ?_
            have hk55 : (decide (((errs b y).2) = 11)) = true := by rw [decide_eq_true_eq]; omega
            refine l_part 66 rfl (fun _ => ?_) (fun hx => absurd (hk55.symm.trans hx) (by decide))
            refine l_q (q_move (v := .int _ _) rfl rfl) ?_
            refine l_q (q_eql rfl rfl rfl) ?_
            refine l_q (q_move (v := .bool _) rfl rfl) ?_
            refine l_part 69 rfl (fun hc56 => ?_) (fun hc56 => ?_)
            · skip
              try simp only [decide_eq_true_eq, decide_eq_false_iff_not, Bool.not_eq_true', Bool.not_eq_false', Bool.not_not, Bool.not_true, Bool.not_false, Bool.not_eq_true, Bool.not_eq_false, Int.not_lt, Int.not_le, Bool.and_eq_true, Bool.or_eq_true, Bool.and_eq_false_iff, Bool.or_eq_false_iff] at hc56
              refine l_q (q_skip rfl) ?_
              refine l_q (q_skip rfl) ?_
              refine l_q (q_pick_t (v := .bool _) rfl rfl rfl) ?_
              refine l_q (q_pick_t (v := .bool _) rfl rfl rfl) ?_
              refine l_q (q_move (v := .bool _) rfl rfl) ?_
              refine l_o (o_call Try.call18 rfl (awake_ret _) rfl ?_)
              rintro _ w57 ⟨rfl, hE57⟩
              replace hB := below_ext hB hE57 hsz
              replace hsz := Nat.le_trans hsz hE57.size
              refine l_q (q_pick_t (v := .bool _) rfl rfl rfl) ?_
              refine l_q (q_assign (v := .bool _) rfl rfl) ?_
              refine l_nil ?_
              refine r_forget [(8, .bool _)] ⟨rfl, trivial⟩ (fun e58 => ?_)
              refine r_ret_ (vs := [.bool _]) rfl Try.func9 rfl (.nil _) ⟨rfl, trivial⟩ ?_
              exact ⟨rfl, Ext.of_below hB⟩
            · skip
              try simp only [decide_eq_true_eq, decide_eq_false_iff_not, Bool.not_eq_true', Bool.not_eq_false', Bool.not_not, Bool.not_true, Bool.not_false, Bool.not_eq_true, Bool.not_eq_false, Int.not_lt, Int.not_le, Bool.and_eq_true, Bool.or_eq_true, Bool.and_eq_false_iff, Bool.or_eq_false_iff] at hc56
              refine l_q (q_move (v := .int _ _) rfl rfl) ?_
              refine l_q (q_eql rfl rfl rfl) ?_
              refine l_q (q_pick_f (v := .bool _) rfl rfl rfl) ?_
              refine l_q (q_pick_t (v := .bool _) rfl rfl rfl) ?_
              refine l_q (q_move (v := .bool _) rfl rfl) ?_
              have hk59 : (decide (((errs (a ++ b) (x ++ y)).2) = 11)) = true := by rw [decide_eq_true_eq]; omega
              refine l_part 74 rfl (fun _ => ?_) (fun hx => absurd (hk59.symm.trans hx) (by decide))
              refine l_o (o_call Try.call18 rfl (awake_ret _) rfl ?_)
              rintro _ w60 ⟨rfl, hE60⟩
              replace hB := below_ext hB hE60 hsz
              replace hsz := Nat.le_trans hsz hE60.size
              refine l_q (q_pick_t (v := .bool _) rfl rfl rfl) ?_
              refine l_q (q_assign (v := .bool _) rfl rfl) ?_
              refine l_nil ?_
              refine r_forget [(8, .bool _)] ⟨rfl, trivial⟩ (fun e61 => ?_)
              refine r_ret_ (vs := [.bool _]) rfl Try.func9 rfl (.nil _) ⟨rfl, trivial⟩ ?_
              exact ⟨rfl, Ext.of_below hB⟩
        · skip
          try simp only [decide_eq_true_eq, decide_eq_false_iff_not, Bool.not_eq_true', Bool.not_eq_false', Bool.not_not, Bool.not_true, Bool.not_false, Bool.not_eq_true, Bool.not_eq_false, Int.not_lt, Int.not_le, Bool.and_eq_true, Bool.or_eq_true, Bool.and_eq_false_iff, Bool.or_eq_false_iff] at hc47
          refine l_q (q_move (v := .int _ _) rfl rfl) ?_
          refine l_q (q_eql rfl rfl rfl) ?_
          refine l_q (q_pick_f (v := .bool _) rfl rfl rfl) ?_
          refine l_q (q_move (v := .bool _) rfl rfl) ?_
          have hk62 : (decide (((errs a x).2) = 11)) = true := by rw [decide_eq_true_eq]; omega
          refine l_part 58 rfl (fun _ => ?_) (fun hx => absurd (hk62.symm.trans hx) (by decide))
          refine l_q (q_move (v := .int _ _) rfl rfl) ?_
          refine l_q (q_eql rfl rfl rfl) ?_
          refine l_q (q_move (v := .bool _) rfl rfl) ?_
          refine l_part 61 rfl (fun hc63 => ?_) (fun hc63 => ?_)
          · skip
            try simp only [decide_eq_true_eq, decide_eq_false_iff_not, Bool.not_eq_true', Bool.not_eq_false', Bool.not_not, Bool.not_true, Bool.not_false, Bool.not_eq_true, Bool.not_eq_false, Int.not_lt, Int.not_le, Bool.and_eq_true, Bool.or_eq_true, Bool.and_eq_false_iff, Bool.or_eq_false_iff] at hc63
            refine l_q (q_skip rfl) ?_
            refine l_q (q_skip rfl) ?_
            refine l_q (q_pick_t (v := .bool _) rfl rfl rfl) ?_
            refine l_q (q_pick_t (v := .bool _) rfl rfl rfl) ?_
            refine l_q (q_move (v := .bool _) rfl rfl) ?_
            refine l_q (q_move (v := .int _ _) rfl rfl) ?_
            refine l_q (q_eql rfl rfl rfl) ?_
            refine l_q (q_move (v := .bool _) rfl rfl) ?_
            refine l_part 69 rfl (fun hc64 => ?_) (fun hc64 => ?_)
            · skip
              try simp only [decide_eq_true_eq, decide_eq_false_iff_not, Bool.not_eq_true', Bool.not_eq_false', Bool.not_not, Bool.not_true, Bool.not_false, Bool.not_eq_true, Bool.not_eq_false, Int.not_lt, Int.not_le, Bool.and_eq_true, Bool.or_eq_true, Bool.and_eq_false_iff, Bool.or_eq_false_iff] at hc64
              refine l_q (q_skip rfl) ?_
              refine l_q (q_skip rfl) ?_
              refine l_q (q_pick_t (v := .bool _) rfl rfl rfl) ?_
              refine l_q (q_pick_t (v := .bool _) rfl rfl rfl) ?_
              refine l_q (q_move (v := .bool _) rfl rfl) ?_
              refine l_o (o_call Try.call18 rfl (awake_ret _) rfl ?_)
              rintro _ w65 ⟨rfl, hE65⟩
              replace hB := below_ext hB hE65 hsz
              replace hsz := Nat.le_trans hsz hE65.size
              refine l_q (q_pick_t (v := .bool _) rfl rfl rfl) ?_
              refine l_q (q_assign (v := .bool _) rfl rfl) ?_
              refine l_nil ?_
              refine r_forget [(8, .bool _)] ⟨rfl, trivial⟩ (fun e66 => ?_)
              refine r_ret_ (vs := [.bool _]) rfl Try.func9 rfl (.nil _) ⟨rfl, trivial⟩ ?_
              exact ⟨rfl, Ext.of_below hB⟩
            · skip
              try simp only [decide_eq_true_eq, decide_eq_false_iff_not, Bool.not_eq_true', Bool.not_eq_false', Bool.not_not, Bool.not_true, Bool.not_false, Bool.not_eq_true, Bool.not_eq_false, Int.not_lt, Int.not_le, Bool.and_eq_true, Bool.or_eq_true, Bool.and_eq_false_iff, Bool.or_eq_false_iff] at hc64
              refine l_q (q_move (v := .int _ _) rfl rfl) ?_
              refine l_q (q_eql rfl rfl rfl) ?_
              refine l_q (q_pick_f (v := .bool _) rfl rfl rfl) ?_
              refine l_q (q_pick_t (v := .bool _) rfl rfl rfl) ?_
              refine l_q (q_move (v := .bool _) rfl rfl) ?_
              have hk67 : (decide (((errs (a ++ b) (x ++ y)).2) = 11)) = true := by rw [decide_eq_true_eq]; omega
              refine l_part 74 rfl (fun _ => ?_) (fun hx => absurd (hk67.symm.trans hx) (by decide))
              refine l_o (o_call Try.call18 rfl (awake_ret _) rfl ?_)
              rintro _ w68 ⟨rfl, hE68⟩
              replace hB := below_ext hB hE68 hsz
              replace hsz := Nat.le_trans hsz hE68.size
              refine l_q (q_pick_t (v := .bool _) rfl rfl rfl) ?_
              refine l_q (q_assign (v := .bool _) rfl rfl) ?_
              refine l_nil ?_
              refine r_forget [(8, .bool _)] ⟨rfl, trivial⟩ (fun e69 => ?_)
              refine r_ret_ (vs := [.bool _]) rfl Try.func9 rfl (.nil _) ⟨rfl, trivial⟩ ?_
              exact ⟨rfl, Ext.of_below hB⟩
          · skip
            try simp only [decide_eq_true_eq, decide_eq_false_iff_not, Bool.not_eq_true', Bool.not_eq_false', Bool.not_not, Bool.not_true, Bool.not_false, Bool.not_eq_true, Bool.not_eq_false, Int.not_lt, Int.not_le, Bool.and_eq_true, Bool.or_eq_true, Bool.and_eq_false_iff, Bool.or_eq_false_iff] at hc63
            refine l_q (q_move (v := .int _ _) rfl rfl) ?_
            refine l_q (q_eql rfl rfl rfl) ?_
            refine l_q (q_pick_f (v := .bool _) rfl rfl rfl) ?_
            refine l_q (q_pick_t (v := .bool _) rfl rfl rfl) ?_
            refine l_q (q_move (v := .bool _) rfl rfl) ?_
            have hk70 : (decide (((errs b y).2) = 11)) = true := by rw [decide_eq_true_eq]; omega
            refine l_part 66 rfl (fun _ => ?_) (fun hx => absurd (hk70.symm.trans hx) (by decide))
            refine l_q (q_move (v := .int _ _) rfl rfl) ?_
            refine l_q (q_eql rfl rfl rfl) ?_
            refine l_q (q_move (v := .bool _) rfl rfl) ?_
            refine l_part 69 rfl (fun hc71 => ?_) (fun hc71 => ?_)
            · skip
              try simp only [decide_eq_true_eq, decide_eq_false_iff_not, Bool.not_eq_true', Bool.not_eq_false', Bool.not_not, Bool.not_true, Bool.not_false, Bool.not_eq_true, Bool.not_eq_false, Int.not_lt, Int.not_le, Bool.and_eq_true, Bool.or_eq_true, Bool.and_eq_false_iff, Bool.or_eq_false_iff] at hc71
              refine l_q (q_skip rfl) ?_
              refine l_q (q_skip rfl) ?_
              refine l_q (q_pick_t (v := .bool _) rfl rfl rfl) ?_
              refine l_q (q_pick_t (v := .bool _) rfl rfl rfl) ?_
              refine l_q (q_move (v := .bool _) rfl rfl) ?_
              refine l_o (o_call Try.call18 rfl (awake_ret _) rfl ?_)
              rintro _ w72 ⟨rfl, hE72⟩
              replace hB := below_ext hB hE72 hsz
              replace hsz := Nat.le_trans hsz hE72.size
              refine l_q (q_pick_t (v := .bool _) rfl rfl rfl) ?_
              refine l_q (q_assign (v := .bool _) rfl rfl) ?_
              refine l_nil ?_
              refine r_forget [(8, .bool _)] ⟨rfl, trivial⟩ (fun e73 => ?_)
              refine r_ret_ (vs := [.bool _]) rfl Try.func9 rfl (.nil _) ⟨rfl, trivial⟩ ?_
              exact ⟨rfl, Ext.of_below hB⟩
            · skip
              try simp only [decide_eq_true_eq, decide_eq_false_iff_not, Bool.not_eq_true', Bool.not_eq_false', Bool.not_not, Bool.not_true, Bool.not_false, Bool.not_eq_true, Bool.not_eq_false, Int.not_lt, Int.not_le, Bool.and_eq_true, Bool.or_eq_true, Bool.and_eq_false_iff, Bool.or_eq_false_iff] at hc71
              refine l_q (q_move (v := .int _ _) rfl rfl) ?_
              refine l_q (q_eql rfl rfl rfl) ?_
              refine l_q (q_pick_f (v := .bool _) rfl rfl rfl) ?_
              refine l_q (q_pick_t (v := .bool _) rfl rfl rfl) ?_
              refine l_q (q_move (v := .bool _) rfl rfl) ?_
              have hk74 : (decide (((errs (a ++ b) (x ++ y)).2) = 11)) = true := by rw [decide_eq_true_eq]; omega
              refine l_part 74 rfl (fun _ => ?_) (fun hx => absurd (hk74.symm.trans hx) (by decide))
              refine l_o (o_call Try.call18 rfl (awake_ret _) rfl ?_)
              rintro _ w75 ⟨rfl, hE75⟩
              replace hB := below_ext hB hE75 hsz
              replace hsz := Nat.le_trans hsz hE75.size
              refine l_q (q_pick_t (v := .bool _) rfl rfl rfl) ?_
              refine l_q (q_assign (v := .bool _) rfl rfl) ?_
              refine l_nil ?_
              refine r_forget [(8, .bool _)] ⟨rfl, trivial⟩ (fun e76 => ?_)
              refine r_ret_ (vs := [.bool _]) rfl Try.func9 rfl (.nil _) ⟨rfl, trivial⟩ ?_
              exact ⟨rfl, Ext.of_below hB⟩
      · skip
        try simp only [decide_eq_true_eq, decide_eq_false_iff_not, Bool.not_eq_true', Bool.not_eq_false', Bool.not_not, Bool.not_true, Bool.not_false, Bool.not_eq_true, Bool.not_eq_false, Int.not_lt, Int.not_le, Bool.and_eq_true, Bool.or_eq_true, Bool.and_eq_false_iff, Bool.or_eq_false_iff] at hc46
        have hjn := errs_join hsf (by omega) (by omega)
        refine r_skip ?_
        refine r_seq ?_
        refine r_region' ?_
        refine l_q (q_move (v := .int _ _) rfl rfl) ?_
        refine l_q (q_eql rfl rfl rfl) ?_
        refine l_q (q_move (v := .bool _) rfl rfl) ?_
        have hk77 : (decide (((errs (a ++ b) (x ++ y)).2) = 0)) = true := by rw [hjn.1]; simp
        refine l_part 79 rfl (fun _ => ?_) (fun hx => absurd (hk77.symm.trans hx) (by decide))
        refine l_q (q_move (v := .int _ _) rfl rfl) ?_
        refine l_q (q_move (v := .int _ _) rfl rfl) ?_
        refine l_q (q_move (v := .int _ _) rfl rfl) ?_
        refine l_q (q_add rfl rfl (by omega) rfl) ?_
        refine l_q (q_leq rfl rfl rfl) ?_
        refine l_q (q_pick_t (v := .bool _) rfl rfl rfl) ?_
        refine l_q (q_move (v := .bool _) rfl rfl) ?_
        have hk78 : (decide (((errs (a ++ b) (x ++ y)).1) ≤ (((errs a x).1) + ((errs b y).1)))) = true := by rw [decide_eq_true_eq]; omega
        refine l_part 86 rfl (fun _ => ?_) (fun hx => absurd (hk78.symm.trans hx) (by decide))
        refine l_o (o_call Try.call18 rfl (awake_ret _) rfl ?_)
        rintro _ w79 ⟨rfl, hE79⟩
        replace hB := below_ext hB hE79 hsz
        replace hsz := Nat.le_trans hsz hE79.size
        refine l_q (q_pick_t (v := .bool _) rfl rfl rfl) ?_
        refine l_q (q_assign (v := .bool _) rfl rfl) ?_
        refine l_nil ?_
        refine r_forget [(8, .bool _)] ⟨rfl, trivial⟩ (fun e80 => ?_)
        refine r_ret_ (vs := [.bool _]) rfl Try.func9 rfl (.nil _) ⟨rfl, trivial⟩ ?_
        exact ⟨rfl, Ext.of_below hB⟩
end Go.Proofs.Ytkcbgpilfegofaa
