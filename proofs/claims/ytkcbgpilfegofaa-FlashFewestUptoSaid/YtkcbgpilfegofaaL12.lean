/- Contracts. -/
import Derived.Test.YtkcbgpilfegofaaE6
set_option linter.unusedVariables false
set_option linter.unusedSimpArgs false
namespace Go.Proofs.Ytkcbgpilfegofaa
open Go Go.RowKit Go.Gv Go.Fl

theorem exL_len80 (s r : Sg) : (exL s r).length ≤ s.length + r.length := by
  unfold exL
  split
  · exact exN_len' _ _ _
  · simp


theorem lfewest_ret (s r : Sg) (xa : Option Addr) (xc : Nat) (xs : List Int) (w : World) (hsf : signsFault s r = 0) (hx : Row w xa xs.length xc 1 (xs.map vint)) (hxn : xs.length ≤ 2097152) : Ret Try.prog 49 [vstr s, vstr r, .slice xa xs.length xc] w (fun v w' => v = .bool true ∧ Ext w w') := by
  have hs4 := (sf_zero hsf).2.2.1
  have hr4 := (sf_zero hsf).2.2.2.1
  have hb := errs_bounds s r
  have hxl := exL_len80 s r
  have hB := Below.refl w.heap.size w
  have hsz : w.heap.size ≤ w.heap.size := Nat.le_refl _
  refine ret_of_runs (args := [_, _, _]) Try.func49 rfl (Nat.le_of_ble_eq_true rfl) (by kernel_rfl) ?_
  refine r_seq ?_
  refine r_region' ?_
  refine l_q (q_assign (v := .bool _) rfl rfl) ?_
  refine l_nil ?_
  refine r_forget [(0, .string _), (1, .string _), (2, .slice _ _ _)] ⟨rfl, rfl, rfl, trivial⟩ (fun e1 => ?_)
  refine r_seq ?_
  refine r_region' ?_
  refine l_q (q_move (v := .string _) rfl rfl) ?_
  refine l_q (q_move (v := .string _) rfl rfl) ?_
  refine l_o (o_call Try.call26 rfl (errors_ret s r _ (by omega) (by omega)) rfl ?_)
  rintro _ w2 ⟨rfl, hE2⟩
  replace hB := below_ext hB hE2 hsz
  replace hsz := Nat.le_trans hsz hE2.size
  refine l_q (q_move (v := .tuple _) rfl rfl) ?_
  refine l_q (q_extract (vs := [_, _]) (v := .int _ _) rfl rfl rfl) ?_
  refine l_q (q_extract (vs := [_, _]) (v := .int _ _) rfl rfl rfl) ?_
  refine l_q (q_assign (v := .int _ _) rfl rfl) ?_
  refine l_q (q_assign (v := .int _ _) rfl rfl) ?_
  refine l_nil ?_
  refine r_forget [(0, .string _), (1, .string _), (2, .slice _ _ _), (7, .int _ _), (8, .int _ _)] ⟨rfl, rfl, rfl, rfl, rfl, trivial⟩ (fun e3 => ?_)
  refine r_seq ?_
  refine r_region' ?_
  refine l_q (q_move (v := .string _) rfl rfl) ?_
  refine l_q (q_move (v := .string _) rfl rfl) ?_
  refine l_o (o_call Try.call27 rfl (explain_ret s r _ (by omega) (by omega)) rfl ?_)
  rintro _ w4 ⟨a4_0, c4_0, rfl, ho4_0, hE4⟩
  replace ho4_0 := own_mono ho4_0 (show w.heap.size ≤ _ by omega)
  replace hB := below_ext hB hE4 hsz
  replace hsz := Nat.le_trans hsz hE4.size
  refine l_q (q_move (v := .tuple _) rfl rfl) ?_
  refine l_q (q_extract (vs := [_, _]) (v := .slice _ _ _) rfl rfl rfl) ?_
  refine l_q (q_extract (vs := [_, _]) (v := .int _ _) rfl rfl rfl) ?_
  refine l_q (q_assign (v := .slice _ _ _) rfl rfl) ?_
  refine l_q (q_assign (v := .int _ _) rfl rfl) ?_
  refine l_nil ?_
  refine r_forget [(0, .string _), (1, .string _), (2, .slice _ _ _), (7, .int _ _), (8, .int _ _), (9, .slice _ _ _), (10, .int _ _)] ⟨rfl, rfl, rfl, rfl, rfl, rfl, rfl, trivial⟩ (fun e5 => ?_)
  refine r_seq ?_
  refine r_region' ?_
  refine l_q (q_move (v := .string _) rfl rfl) ?_
  refine l_q (q_move (v := .string _) rfl rfl) ?_
  refine l_q (q_move (v := .slice _ _ _) rfl rfl) ?_
  refine l_o (o_call Try.call73 rfl (do_ret s r _ _ xs _ (hx.below hB) (by omega) (by omega) (by omega)) rfl ?_)
  rintro _ w6 ⟨rfl, hE6⟩
  replace hB := below_ext hB hE6 hsz
  replace ho4_0 := own_ext ho4_0 hE6
  replace hsz := Nat.le_trans hsz hE6.size
  refine l_q (q_move (v := .tuple _) rfl rfl) ?_
  refine l_q (q_extract (vs := [_, _]) (v := .int _ _) rfl rfl rfl) ?_
  refine l_q (q_extract (vs := [_, _]) (v := .bool _) rfl rfl rfl) ?_
  refine l_q (q_assign (v := .int _ _) rfl rfl) ?_
  refine l_q (q_assign (v := .bool _) rfl rfl) ?_
  refine l_nil ?_
  refine r_forget [(0, .string _), (1, .string _), (2, .slice _ _ _), (7, .int _ _), (8, .int _ _), (9, .slice _ _ _), (10, .int _ _), (11, .int _ _), (12, .bool _)] ⟨rfl, rfl, rfl, rfl, rfl, rfl, rfl, rfl, rfl, trivial⟩ (fun e7 => ?_)
  refine r_seq ?_
  refine r_seq ?_
  refine r_region' ?_
  refine l_q (q_move (v := .int _ _) rfl rfl) ?_
  refine l_q (q_neq rfl rfl rfl) ?_
  refine l_nil ?_
  refine r_forget [(0, .string _), (1, .string _), (2, .slice _ _ _), (7, .int _ _), (8, .int _ _), (9, .slice _ _ _), (10, .int _ _), (11, .int _ _), (12, .bool _), (35, .bool _)] ⟨rfl, rfl, rfl, rfl, rfl, rfl, rfl, rfl, rfl, rfl, trivial⟩ (fun e8 => ?_)
  refine r_cond rfl (fun hc9 => ?_) (fun hc9 => ?_)
  · skip
    try simp only [decide_eq_true_eq, decide_eq_false_iff_not, Bool.not_eq_true', Bool.not_eq_false', Bool.not_not, Bool.not_true, Bool.not_false, Bool.not_eq_true, Bool.not_eq_false, Int.not_lt, Int.not_le, Bool.and_eq_true, Bool.or_eq_true, Bool.and_eq_false_iff, Bool.or_eq_false_iff] at hc9
    have he : ¬ (errs s r).2 = 0 := hc9
    have he11 := (errs_two hsf).resolve_left he
    have hnd := doS_none (xs := xs) hsf he
    refine r_seq ?_
    refine r_region' ?_
    refine l_q (q_move (v := .int _ _) rfl rfl) ?_
    refine l_q (q_eql rfl rfl rfl) ?_
    refine l_q (q_move (v := .bool _) rfl rfl) ?_
    have hk10 : (decide (((errs s r).2) = 11)) = true := by rw [he11]; rfl
    refine l_part 38 rfl (fun _ => ?_) (fun hx => absurd (hk10.symm.trans hx) (by decide))
    refine l_q (q_move (v := .int _ _) rfl rfl) ?_
    refine l_q (q_move (v := .int _ _) rfl rfl) ?_
    refine l_q (q_eql rfl rfl rfl) ?_
    refine l_q (q_pick_t (v := .bool _) rfl rfl rfl) ?_
    refine l_q (q_move (v := .bool _) rfl rfl) ?_
    have hk11 : (decide (((errs s r).2) = ((errs s r).2))) = true := by simp
    refine l_part 43 rfl (fun _ => ?_) (fun hx => absurd (hk11.symm.trans hx) (by decide))
    refine l_q (q_move (v := .bool _) rfl rfl) ?_
    refine l_q (q_not rfl rfl) ?_
    refine l_q (q_pick_t (v := .bool _) rfl rfl rfl) ?_
    refine l_q (q_assign (v := .bool _) rfl rfl) ?_
    refine l_nil ?_
    refine r_forget [(6, .bool _)] ⟨rfl, trivial⟩ (fun e12 => ?_)
    refine r_ret_ (vs := [.bool _]) rfl Try.func49 rfl (.nil _) ⟨rfl, trivial⟩ ?_
    exact ⟨vbool_eq (by rw [hnd]; rfl), Ext.of_below hB⟩
  · skip
    try simp only [decide_eq_true_eq, decide_eq_false_iff_not, Bool.not_eq_true', Bool.not_eq_false', Bool.not_not, Bool.not_true, Bool.not_false, Bool.not_eq_true, Bool.not_eq_false, Int.not_lt, Int.not_le, Bool.and_eq_true, Bool.or_eq_true, Bool.and_eq_false_iff, Bool.or_eq_false_iff] at hc9
    have he : (errs s r).2 = 0 := hc9
    obtain ⟨hxd, _⟩ := exL_doS hsf he
    have hpv := prov_yes (er := (errs s r).1) hsf hxd (Int.le_refl _)
    refine r_skip ?_
    refine r_seq ?_
    refine r_region' ?_
    refine l_q (q_move (v := .string _) rfl rfl) ?_
    refine l_q (q_move (v := .string _) rfl rfl) ?_
    refine l_q (q_move (v := .slice _ _ _) rfl rfl) ?_
    refine l_o (o_call Try.call73 rfl (do_ret s r _ _ (exL s r) _ (Row.of_owns ho4_0) (by omega) (by omega) (by omega)) rfl ?_)
    rintro _ w13 ⟨rfl, hE13⟩
    replace hB := below_ext hB hE13 hsz
    replace ho4_0 := own_ext ho4_0 hE13
    replace hsz := Nat.le_trans hsz hE13.size
    refine l_q (q_move (v := .tuple _) rfl rfl) ?_
    refine l_q (q_extract (vs := [_, _]) (v := .int _ _) rfl rfl rfl) ?_
    refine l_q (q_extract (vs := [_, _]) (v := .bool _) rfl rfl rfl) ?_
    refine l_q (q_assign (v := .int _ _) rfl rfl) ?_
    refine l_q (q_assign (v := .bool _) rfl rfl) ?_
    refine l_nil ?_
    refine r_forget [(0, .string _), (1, .string _), (2, .slice _ _ _), (7, .int _ _), (9, .slice _ _ _), (10, .int _ _), (11, .int _ _), (12, .bool _), (13, .int _ _), (14, .bool _)] ⟨rfl, rfl, rfl, rfl, rfl, rfl, rfl, rfl, rfl, rfl, trivial⟩ (fun e14 => ?_)
    refine r_seq ?_
    refine r_seq ?_
    refine r_region' ?_
    refine l_q (q_move (v := .int _ _) rfl rfl) ?_
    refine l_q (q_neq rfl rfl rfl) ?_
    refine l_q (q_move (v := .bool _) rfl rfl) ?_
    have hk15 : (!decide (((errs s r).2) = 0)) = false := by rw [he]; rfl
    refine l_part 56 rfl (fun hx => absurd (hk15.symm.trans hx) (by decide)) (fun _ => ?_)
    refine l_q (q_move (v := .bool _) rfl rfl) ?_
    refine l_q (q_not rfl rfl) ?_
    refine l_q (q_pick_f (v := .bool _) rfl rfl rfl) ?_
    refine l_q (q_move (v := .bool _) rfl rfl) ?_
    have hk16 : (!((doS s r 0 (exL s r)).2)) = false := by rw [hxd]; rfl
    refine l_part 60 rfl (fun hx => absurd (hk16.symm.trans hx) (by decide)) (fun _ => ?_)
    refine l_q (q_move (v := .int _ _) rfl rfl) ?_
    refine l_q (q_move (v := .int _ _) rfl rfl) ?_
    refine l_q (q_neq rfl rfl rfl) ?_
    refine l_q (q_pick_f (v := .bool _) rfl rfl rfl) ?_
    refine l_q (q_move (v := .bool _) rfl rfl) ?_
    have hk17 : (!decide (((doS s r 0 (exL s r)).1) = ((errs s r).1))) = false := by rw [hxd]; simp
    refine l_part 65 rfl (fun hx => absurd (hk17.symm.trans hx) (by decide)) (fun _ => ?_)
    refine l_q (q_move (v := .string _) rfl rfl) ?_
    refine l_q (q_move (v := .string _) rfl rfl) ?_
    refine l_q (q_move (v := .slice _ _ _) rfl rfl) ?_
    refine l_o (o_call Try.call22 rfl (list_ret _ _ (exL s r) _ (Row.of_owns ho4_0) (by omega)) rfl ?_)
    rintro _ w18 ⟨a18_0, c18_0, rfl, ho18_0, hE18⟩
    replace ho18_0 := own_mono ho18_0 (show w.heap.size ≤ _ by omega)
    replace hB := below_ext hB hE18 hsz
    replace ho4_0 := own_ext ho4_0 hE18
    replace hsz := Nat.le_trans hsz hE18.size
    refine l_q (q_move (v := .int _ _) rfl rfl) ?_
    refine l_o (o_call Try.call47 rfl (prove_ret s r _ _ (exL s r) ((errs s r).1) _ (by omega) (by omega) (Row.of_owns ho18_0) (by omega) (by omega)) rfl ?_)
    rintro _ w19 ⟨rfl, hE19⟩
    replace hB := below_ext hB hE19 hsz
    replace ho4_0 := own_ext ho4_0 hE19
    replace ho18_0 := own_ext ho18_0 hE19
    replace hsz := Nat.le_trans hsz hE19.size
    refine l_q (q_not rfl rfl) ?_
    refine l_q (q_pick_f (v := .bool _) rfl rfl rfl) ?_
    refine l_nil ?_
    refine r_forget [(2, .slice _ _ _), (7, .int _ _), (9, .slice _ _ _), (11, .int _ _), (12, .bool _), (73, .bool _)] ⟨rfl, rfl, rfl, rfl, rfl, rfl, trivial⟩ (fun e20 => ?_)
    have hk21 : (!(provB s r (exL s r) ((errs s r).1))) = false := by rw [hpv]; rfl
    refine r_cond_f ((congrArg Value.bool hk21 : Value.bool _ = _)) ?_
    refine r_skip ?_
    refine r_seq ?_
    refine r_region' ?_
    refine l_q (q_move (v := .bool _) rfl rfl) ?_
    refine l_q (q_not rfl rfl) ?_
    refine l_q (q_move (v := .bool _) rfl rfl) ?_
    refine l_part 76 rfl (fun hc22 => ?_) (fun hc22 => ?_)
    · skip
      try simp only [decide_eq_true_eq, decide_eq_false_iff_not, Bool.not_eq_true', Bool.not_eq_false', Bool.not_not, Bool.not_true, Bool.not_false, Bool.not_eq_true, Bool.not_eq_false, Int.not_lt, Int.not_le, Bool.and_eq_true, Bool.or_eq_true, Bool.and_eq_false_iff, Bool.or_eq_false_iff] at hc22
      refine l_q (q_skip rfl) ?_
      refine l_q (q_skip rfl) ?_
      refine l_q (q_skip rfl) ?_
      refine l_q (q_pick_t (v := .bool _) rfl rfl rfl) ?_
      refine l_q (q_move (v := .bool _) rfl rfl) ?_
      refine l_q (q_skip rfl) ?_
      refine l_q (q_skip rfl) ?_
      refine l_q (q_skip rfl) ?_
      refine l_q (q_skip rfl) ?_
      refine l_q (q_skip rfl) ?_
      refine l_q (q_skip rfl) ?_
      refine l_q (q_skip rfl) ?_
      refine l_q (q_skip rfl) ?_
      refine l_q (q_skip rfl) ?_
      refine l_q (q_pick_t (v := .bool _) rfl rfl rfl) ?_
      refine l_q (q_assign (v := .bool _) rfl rfl) ?_
      refine l_nil ?_
      refine r_forget [(6, .bool _)] ⟨rfl, trivial⟩ (fun e23 => ?_)
      refine r_ret_ (vs := [.bool _]) rfl Try.func49 rfl (.nil _) ⟨rfl, trivial⟩ ?_
      exact ⟨rfl, Ext.of_below hB⟩
    · skip
      try simp only [decide_eq_true_eq, decide_eq_false_iff_not, Bool.not_eq_true', Bool.not_eq_false', Bool.not_not, Bool.not_true, Bool.not_false, Bool.not_eq_true, Bool.not_eq_false, Int.not_lt, Int.not_le, Bool.and_eq_true, Bool.or_eq_true, Bool.and_eq_false_iff, Bool.or_eq_false_iff] at hc22
      have his : (doS s r 0 xs).2 = true := by simpa using hc22
      have hdx : doS s r 0 xs = ((doS s r 0 xs).1, true) := by rw [← his]
      obtain ⟨_, he1, hle⟩ := doS_errs hsf hdx
      refine l_q (q_move (v := .int _ _) rfl rfl) ?_
      refine l_q (q_move (v := .int _ _) rfl rfl) ?_
      refine l_q (q_gtr rfl rfl rfl) ?_
      refine l_q (q_pick_f (v := .bool _) rfl rfl rfl) ?_
      refine l_q (q_move (v := .bool _) rfl rfl) ?_
      refine l_part 81 rfl (fun hc24 => ?_) (fun hc24 => ?_)
      · skip
        try simp only [decide_eq_true_eq, decide_eq_false_iff_not, Bool.not_eq_true', Bool.not_eq_false', Bool.not_not, Bool.not_true, Bool.not_false, Bool.not_eq_true, Bool.not_eq_false, Int.not_lt, Int.not_le, Bool.and_eq_true, Bool.or_eq_true, Bool.and_eq_false_iff, Bool.or_eq_false_iff] at hc24
        refine l_q (q_skip rfl) ?_
        refine l_q (q_skip rfl) ?_
        refine l_q (q_skip rfl) ?_
        refine l_q (q_skip rfl) ?_
        refine l_q (q_skip rfl) ?_
        refine l_q (q_skip rfl) ?_
        refine l_q (q_skip rfl) ?_
        refine l_q (q_skip rfl) ?_
        refine l_q (q_skip rfl) ?_
        refine l_q (q_pick_t (v := .bool _) rfl rfl rfl) ?_
        refine l_q (q_assign (v := .bool _) rfl rfl) ?_
        refine l_nil ?_
        refine r_forget [(6, .bool _)] ⟨rfl, trivial⟩ (fun e25 => ?_)
        refine r_ret_ (vs := [.bool _]) rfl Try.func49 rfl (.nil _) ⟨rfl, trivial⟩ ?_
        exact ⟨rfl, Ext.of_below hB⟩
      · skip
        try simp only [decide_eq_true_eq, decide_eq_false_iff_not, Bool.not_eq_true', Bool.not_eq_false', Bool.not_not, Bool.not_true, Bool.not_false, Bool.not_eq_true, Bool.not_eq_false, Int.not_lt, Int.not_le, Bool.and_eq_true, Bool.or_eq_true, Bool.and_eq_false_iff, Bool.or_eq_false_iff] at hc24
        have hgt : (doS s r 0 xs).1 ≤ (errs s r).1 := by omega
        have heq : (doS s r 0 xs).1 = (errs s r).1 := by omega
        have hlx := exL_lex hsf he hdx heq
        refine l_q (q_move (v := .int _ _) rfl rfl) ?_
        refine l_q (q_move (v := .int _ _) rfl rfl) ?_
        refine l_q (q_eql rfl rfl rfl) ?_
        refine l_q (q_move (v := .bool _) rfl rfl) ?_
        have hk26 : (decide (((doS s r 0 xs).1) = ((errs s r).1))) = true := by rw [decide_eq_true_eq]; exact heq
        refine l_part 85 rfl (fun _ => ?_) (fun hx => absurd (hk26.symm.trans hx) (by decide))
        refine l_q (q_move (v := .slice _ _ _) rfl rfl) ?_
        refine l_q (q_move (v := .slice _ _ _) rfl rfl) ?_
        refine l_o (o_call Try.call74 rfl (before_ret _ _ xs _ _ (exL s r) _ (hx.below hB) (by omega) (Row.of_owns ho4_0) (by omega)) rfl ?_)
        rintro _ w27 ⟨rfl, hE27⟩
        replace hB := below_ext hB hE27 hsz
        replace ho4_0 := own_ext ho4_0 hE27
        replace ho18_0 := own_ext ho18_0 hE27
        replace hsz := Nat.le_trans hsz hE27.size
        refine l_q (q_not rfl rfl) ?_
        refine l_q (q_pick_t (v := .bool _) rfl rfl rfl) ?_
        refine l_q (q_pick_f (v := .bool _) rfl rfl rfl) ?_
        refine l_q (q_assign (v := .bool _) rfl rfl) ?_
        refine l_nil ?_
        refine r_forget [(6, .bool _)] ⟨rfl, trivial⟩ (fun e28 => ?_)
        refine r_ret_ (vs := [.bool _]) rfl Try.func49 rfl (.nil _) ⟨rfl, trivial⟩ ?_
        exact ⟨vbool_eq (by rw [hlx]; rfl), Ext.of_below hB⟩
theorem flashFewest_ret (s r : Sg) (xa : Option Addr) (xc : Nat) (xs : List Int) (wa : Option Addr) (wc : Nat) (ws : List Int) (w : World) (hs : s.length ≤ 2097152) (hr : r.length ≤ 2097152) (hx : Row w xa xs.length xc 1 (xs.map vint)) (hxn : xs.length ≤ 2097152) (hw : Row w wa ws.length wc 1 (ws.map (Value.int .u16))) (hwn : ws.length ≤ 2097152) (hwr : ∀ x ∈ ws, 0 ≤ x ∧ x ≤ 65535) : Ret Try.prog 16 [vstr s, vstr r, .slice xa xs.length xc, .slice wa ws.length wc] w (fun v w' => v = .bool true ∧ Ext w w') := by
  have hB := Below.refl w.heap.size w
  have hsz : w.heap.size ≤ w.heap.size := Nat.le_refl _
  refine ret_of_runs (args := [_, _, _, _]) Try.func16 rfl (Nat.le_of_ble_eq_true rfl) (by kernel_rfl) ?_
  refine r_seq ?_
  refine r_region' ?_
  refine l_q (q_assign (v := .bool _) rfl rfl) ?_
  refine l_nil ?_
  refine r_forget [(0, .string _), (1, .string _), (2, .slice _ _ _), (3, .slice _ _ _)] ⟨rfl, rfl, rfl, rfl, trivial⟩ (fun e1 => ?_)
  refine r_seq ?_
  refine r_seq ?_
  refine r_region' ?_
  refine l_q (q_move (v := .string _) rfl rfl) ?_
  refine l_q (q_move (v := .string _) rfl rfl) ?_
  refine l_o (o_call Try.call28 rfl (signed_ret _ _ _ (by omega) (by omega)) rfl ?_)
  rintro _ w2 ⟨rfl, rfl⟩
  refine l_q (q_neq rfl rfl rfl) ?_
  refine l_q (q_move (v := .bool _) rfl rfl) ?_
  refine l_part 15 rfl (fun hc3 => ?_) (fun hc3 => ?_)
  · skip
    try simp only [decide_eq_true_eq, decide_eq_false_iff_not, Bool.not_eq_true', Bool.not_eq_false', Bool.not_not, Bool.not_true, Bool.not_false, Bool.not_eq_true, Bool.not_eq_false, Int.not_lt, Int.not_le, Bool.and_eq_true, Bool.or_eq_true, Bool.and_eq_false_iff, Bool.or_eq_false_iff] at hc3
    refine l_q (q_skip rfl) ?_
    refine l_q (q_skip rfl) ?_
    refine l_q (q_skip rfl) ?_
    refine l_q (q_pick_t (v := .bool _) rfl rfl rfl) ?_
    refine l_nil ?_
    refine r_forget [(0, .string _), (1, .string _), (2, .slice _ _ _), (3, .slice _ _ _), (19, .bool _)] ⟨rfl, rfl, rfl, rfl, rfl, trivial⟩ (fun e4 => ?_)
    refine r_cond_t rfl ?_
    refine r_seq ?_
    refine r_region' ?_
    refine l_o (o_call Try.call18 rfl (awake_ret _) rfl ?_)
    rintro _ w5 ⟨rfl, hE5⟩
    replace hB := below_ext hB hE5 hsz
    replace hsz := Nat.le_trans hsz hE5.size
    refine l_q (q_assign (v := .bool _) rfl rfl) ?_
    refine l_nil ?_
    refine r_forget [(8, .bool _)] ⟨rfl, trivial⟩ (fun e6 => ?_)
    refine r_ret_ (vs := [.bool _]) rfl Try.func16 rfl (.nil _) ⟨rfl, trivial⟩ ?_
    exact ⟨rfl, Ext.of_below hB⟩
  · skip
    try simp only [decide_eq_true_eq, decide_eq_false_iff_not, Bool.not_eq_true', Bool.not_eq_false', Bool.not_not, Bool.not_true, Bool.not_false, Bool.not_eq_true, Bool.not_eq_false, Int.not_lt, Int.not_le, Bool.and_eq_true, Bool.or_eq_true, Bool.and_eq_false_iff, Bool.or_eq_false_iff] at hc3
    have hsf : signsFault s r = 0 := by simpa using hc3
    have hs4 := (sf_zero hsf).2.2.1
    have hr4 := (sf_zero hsf).2.2.2.1
    have hsgs := (sf_zero hsf).2.2.2.2.1
    refine l_q (q_move (v := .slice _ _ _) rfl rfl) ?_
    refine l_q (q_len rfl Try.underlying25 rfl rfl) ?_
    refine l_q (q_gtr rfl rfl rfl) ?_
    refine l_q (q_pick_f (v := .bool _) rfl rfl rfl) ?_
    refine l_nil ?_
    refine r_forget [(0, .string _), (1, .string _), (2, .slice _ _ _), (3, .slice _ _ _), (19, .bool _)] ⟨rfl, rfl, rfl, rfl, rfl, trivial⟩ (fun e7 => ?_)
    refine r_cond rfl (fun hc8 => ?_) (fun hc8 => ?_)
    · skip
      try simp only [decide_eq_true_eq, decide_eq_false_iff_not, Bool.not_eq_true', Bool.not_eq_false', Bool.not_not, Bool.not_true, Bool.not_false, Bool.not_eq_true, Bool.not_eq_false, Int.not_lt, Int.not_le, Bool.and_eq_true, Bool.or_eq_true, Bool.and_eq_false_iff, Bool.or_eq_false_iff] at hc8
      refine r_seq ?_
      refine r_region' ?_
      refine l_o (o_call Try.call18 rfl (awake_ret _) rfl ?_)
      rintro _ w9 ⟨rfl, hE9⟩
      replace hB := below_ext hB hE9 hsz
      replace hsz := Nat.le_trans hsz hE9.size
      refine l_q (q_assign (v := .bool _) rfl rfl) ?_
      refine l_nil ?_
      refine r_forget [(8, .bool _)] ⟨rfl, trivial⟩ (fun e10 => ?_)
      refine r_ret_ (vs := [.bool _]) rfl Try.func16 rfl (.nil _) ⟨rfl, trivial⟩ ?_
      exact ⟨rfl, Ext.of_below hB⟩
    · skip
      try simp only [decide_eq_true_eq, decide_eq_false_iff_not, Bool.not_eq_true', Bool.not_eq_false', Bool.not_not, Bool.not_true, Bool.not_false, Bool.not_eq_true, Bool.not_eq_false, Int.not_lt, Int.not_le, Bool.and_eq_true, Bool.or_eq_true, Bool.and_eq_false_iff, Bool.or_eq_false_iff] at hc8
      refine r_skip ?_
      refine r_seq ?_
      refine r_region' ?_
      refine l_q (q_move (v := .string _) rfl rfl) ?_
      refine l_q (q_move (v := .slice _ _ _) rfl rfl) ?_
      refine l_o (o_call Try.call48 rfl (misread_ret s _ _ ws 40 _ hs4 hsgs (hw.below hB) hwn hwr (by omega)) rfl ?_)
      rintro _ w11 ⟨out, ys, nn, oay, ocy, rfl, hoy11, hmis, hE11⟩
      replace hoy11 := own_mono hoy11 (show w.heap.size ≤ _ by omega)
      replace hB := below_ext hB hE11 hsz
      replace hsz := Nat.le_trans hsz hE11.size
      obtain ⟨hmo, hmy, hml, hmd, hmn0, hmn⟩ := hmis
      refine l_q (q_move (v := .tuple _) rfl rfl) ?_
      refine l_q (q_extract (vs := [_, _]) (v := .string _) rfl rfl rfl) ?_
      refine l_q (q_extract (vs := [_, _]) (v := .slice _ _ _) rfl rfl rfl) ?_
      refine l_q (q_assign (v := .string _) rfl rfl) ?_
      refine l_q (q_assign (v := .slice _ _ _) rfl rfl) ?_
      refine l_nil ?_
      refine r_forget [(0, .string _), (1, .string _), (2, .slice _ _ _), (9, .string _), (10, .slice _ _ _)] ⟨rfl, rfl, rfl, rfl, rfl, trivial⟩ (fun e12 => ?_)
      refine r_seq ?_
      refine r_region' ?_
      refine l_q (q_move (v := .string _) rfl rfl) ?_
      refine l_q (q_move (v := .string _) rfl rfl) ?_
      refine l_q (q_move (v := .slice _ _ _) rfl rfl) ?_
      refine l_o (o_call Try.call49 rfl (lfewest_ret s r _ _ xs _ hsf (hx.below hB) (by omega)) rfl ?_)
      rintro _ w13 ⟨rfl, hE13⟩
      replace hB := below_ext hB hE13 hsz
      replace hoy11 := own_ext hoy11 hE13
      replace hsz := Nat.le_trans hsz hE13.size
      refine l_q (q_move (v := .bool _) rfl rfl) ?_
      refine l_q (q_move (v := .string _) rfl rfl) ?_
      refine l_q (q_len_str rfl Try.underlying9 rfl rfl) ?_
      refine l_q (q_gtr rfl rfl rfl) ?_
      refine l_q (q_move (v := .bool _) rfl rfl) ?_
      refine l_part 35 rfl (fun hc14 => ?_) (fun hc14 => ?_)
      · skip
        try simp only [decide_eq_true_eq, decide_eq_false_iff_not, Bool.not_eq_true', Bool.not_eq_false', Bool.not_not, Bool.not_true, Bool.not_false, Bool.not_eq_true, Bool.not_eq_false, Int.not_lt, Int.not_le, Bool.and_eq_true, Bool.or_eq_true, Bool.and_eq_false_iff, Bool.or_eq_false_iff] at hc14
        refine l_q (q_skip rfl) ?_
        refine l_q (q_skip rfl) ?_
        refine l_q (q_skip rfl) ?_
        refine l_q (q_skip rfl) ?_
        refine l_q (q_pick_t (v := .bool _) rfl rfl rfl) ?_
        refine l_q (q_pick_t (v := .bool _) rfl rfl rfl) ?_
        refine l_q (q_move (v := .bool _) rfl rfl) ?_
        refine l_o (o_call Try.call18 rfl (awake_ret _) rfl ?_)
        rintro _ w15 ⟨rfl, hE15⟩
        replace hB := below_ext hB hE15 hsz
        replace hoy11 := own_ext hoy11 hE15
        replace hsz := Nat.le_trans hsz hE15.size
        refine l_q (q_pick_t (v := .bool _) rfl rfl rfl) ?_
        refine l_q (q_assign (v := .bool _) rfl rfl) ?_
        refine l_nil ?_
        refine r_forget [(8, .bool _)] ⟨rfl, trivial⟩ (fun e16 => ?_)
        refine r_ret_ (vs := [.bool _]) rfl Try.func16 rfl (.nil _) ⟨rfl, trivial⟩ ?_
        exact ⟨rfl, Ext.of_below hB⟩
      · skip
        try simp only [decide_eq_true_eq, decide_eq_false_iff_not, Bool.not_eq_true', Bool.not_eq_false', Bool.not_not, Bool.not_true, Bool.not_false, Bool.not_eq_true, Bool.not_eq_false, Int.not_lt, Int.not_le, Bool.and_eq_true, Bool.or_eq_true, Bool.and_eq_false_iff, Bool.or_eq_false_iff] at hc14
        have hol : out.length ≤ 40 := by first | omega | (have h9 := hc14; simp at h9; omega)
        refine l_q (q_move (v := .string _) rfl rfl) ?_
        refine l_q (q_move (v := .string _) rfl rfl) ?_
        refine l_q (q_move (v := .slice _ _ _) rfl rfl) ?_
        refine l_o (o_call Try.call49 rfl (lfewest_ret s out _ _ ys _ (sf_mk hs4 (by omega) hsgs hmo) (Row.of_owns hoy11) (by omega)) rfl ?_)
        rintro _ w17 ⟨rfl, hE17⟩
        replace hB := below_ext hB hE17 hsz
        replace hoy11 := own_ext hoy11 hE17
        replace hsz := Nat.le_trans hsz hE17.size
        refine l_q (q_pick_f (v := .bool _) rfl rfl rfl) ?_
        refine l_q (q_pick_t (v := .bool _) rfl rfl rfl) ?_
        refine l_q (q_move (v := .bool _) rfl rfl) ?_
        refine l_o (o_call Try.call18 rfl (awake_ret _) rfl ?_)
        rintro _ w18 ⟨rfl, hE18⟩
        replace hB := below_ext hB hE18 hsz
        replace hoy11 := own_ext hoy11 hE18
        replace hsz := Nat.le_trans hsz hE18.size
        refine l_q (q_pick_t (v := .bool _) rfl rfl rfl) ?_
        refine l_q (q_assign (v := .bool _) rfl rfl) ?_
        refine l_nil ?_
        refine r_forget [(8, .bool _)] ⟨rfl, trivial⟩ (fun e19 => ?_)
        refine r_ret_ (vs := [.bool _]) rfl Try.func16 rfl (.nil _) ⟨rfl, trivial⟩ ?_
        exact ⟨rfl, Ext.of_below hB⟩
end Go.Proofs.Ytkcbgpilfegofaa
