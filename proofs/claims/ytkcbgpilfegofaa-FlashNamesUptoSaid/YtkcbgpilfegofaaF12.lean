/- Contracts. -/
import Derived.Test.YtkcbgpilfegofaaF11
set_option linter.unusedVariables false
set_option linter.unusedSimpArgs false
namespace Go.Proofs.Ytkcbgpilfegofaa
open Go Go.RowKit Go.Gv Go.Fl

theorem below_upd_any {B m : Nat} {w0 w w' : World} (hB : Below B w0 w) (hG : w.grownBy w' (some m)) (hm : B ≤ m) (hsz : B ≤ w.heap.size) : Below B w0 w' := hB.grown hG hsz (fun k hk => by cases hk; exact hm)
theorem fewest_ret : ∀ (n : Nat) (s r : Sg) (w : World) (m clock : Nat) (es : List MapEntry), s.length + r.length ≤ n → s.length ≤ 2097152 → r.length ≤ 2097152 → (∀ x ∈ r, x ≠ 33) → MapAt w m es clock → Memo es →
    Ret Try.prog 59 [.map (some m), .agg ⟨[vstr s, vstr r]⟩] w (FewP m s r w) := by
  intro n
  induction n with
  | zero => exact fun s r w m clock es hn hs hr h33 hM hMe => fewest_step m clock es s r w hs hr h33 hM hMe (fun s2 r2 w1 es1 c1 hlt => by omega)
  | succ n ih => exact fun s r w m clock es hn hs hr h33 hM hMe => fewest_step m clock es s r w hs hr h33 hM hMe (fun s2 r2 w1 es1 c1 hlt h1 h2 h3 h4 h5 => ih s2 r2 w1 m c1 es1 (by omega) h1 h2 h3 h4 h5)
theorem chk_two (a b : Sg) : chk [a, b] = signsFault a b := by
  unfold chk signsFault
  by_cases ha : a.length ≤ 40 <;> by_cases hb : b.length ≤ 40
  · have h1 : [a, b].all (fun s => decide ((s.length : Int) ≤ 40)) = true := by simp; omega
    have h2 : [a, b].all isSigns = (isSigns a && isSigns b) := by simp
    rw [if_pos h1, h2, if_neg (show ¬ (40 < a.length ∨ 40 < b.length) by omega)]
  all_goals
    have h1 : ¬ [a, b].all (fun s => decide ((s.length : Int) ≤ 40)) = true := by simp; omega
    rw [if_neg h1, if_pos (show 40 < a.length ∨ 40 < b.length by omega)]
theorem signs33 {s : Sg} (h : isSigns s = true) : ∀ x ∈ s, x ≠ 33 := by
  intro x hx he
  have := List.all_eq_true.1 h x hx
  subst he
  simp at this
theorem sf_zero {a b : Sg} (h : signsFault a b = 0) : (∀ x ∈ a, x ≠ 33) ∧ (∀ x ∈ b, x ≠ 33) ∧ a.length ≤ 40 ∧ b.length ≤ 40 ∧ isSigns a = true ∧ isSigns b = true := by
  unfold signsFault at h
  split at h
  · cases h
  · split at h
    · rename_i h1 h2
      rw [Bool.and_eq_true] at h2
      exact ⟨signs33 h2.1, signs33 h2.2, by omega, by omega, h2⟩
    · cases h
def errs (s r : Sg) : Int × Int := if ¬ signsFault s r = 0 then (0, signsFault s r) else if 1048576 ≤ fe 1048576 s r then (0, 11) else (fe 1048576 s r, 0)


theorem errors_ret (s r : Sg) (w : World) (hs : s.length ≤ 2097152) (hr : r.length ≤ 2097152) : Ret Try.prog 26 [vstr s, vstr r] w (fun v w' => v = .tuple ⟨[vint ((errs s r).1), vint ((errs s r).2)]⟩ ∧ Ext w w') := by
  have hB := Below.refl w.heap.size w
  have hsz : w.heap.size ≤ w.heap.size := Nat.le_refl _
  refine ret_of_runs (args := [_, _]) Try.func26 rfl (Nat.le_of_ble_eq_true rfl) (by kernel_rfl) ?_
  refine r_seq ?_
  refine r_region' ?_
  refine l_q (q_assign (v := .int _ _) rfl rfl) ?_
  refine l_q (q_assign (v := .int _ _) rfl rfl) ?_
  refine l_nil ?_
  refine r_forget [(0, .string _), (1, .string _)] ⟨rfl, rfl, trivial⟩ (fun e1 => ?_)
  refine r_seq ?_
  refine r_seq ?_
  refine r_region' ?_
  refine l_q (q_move (v := .string _) rfl rfl) ?_
  refine l_q (q_move (v := .string _) rfl rfl) ?_
  refine l_o (o_buildSlice (el := 9) (cs := [vstr s, vstr r]) Try.underlying22 el9 (by decide) (by kernel_rfl) rfl (by decide) rfl ?_)
  intro b2 w2 hzl2 hzr2 _ hb2 hE2 ho2
  have hbs_b2 : w.heap.size ≤ b2 := Nat.le_trans hsz hzl2
  replace hB := below_ext hB hE2 hsz
  replace hsz := Nat.le_trans hsz hE2.size
  refine l_o (o_call Try.call58 rfl (checkSigns_ret _ _ [s, r] _ (Row.of_owns ho2) (by simp) (by simp; exact ⟨hs, hr⟩)) rfl ?_)
  rintro _ w3 ⟨rfl, hE3⟩
  replace hB := below_ext hB hE3 hsz
  replace ho2 := own_ext ho2 hE3
  replace hsz := Nat.le_trans hsz hE3.size
  refine l_q (q_assign (v := .int _ _) rfl rfl) ?_
  refine l_nil ?_
  refine r_forget [(0, .string _), (1, .string _), (6, .int _ _)] ⟨rfl, rfl, rfl, trivial⟩ (fun e4 => ?_)
  refine r_seq ?_
  refine r_region' ?_
  refine l_q (q_move (v := .int _ _) rfl rfl) ?_
  refine l_q (q_neq rfl rfl rfl) ?_
  refine l_nil ?_
  refine r_forget [(0, .string _), (1, .string _), (6, .int _ _), (13, .bool _)] ⟨rfl, rfl, rfl, rfl, trivial⟩ (fun e5 => ?_)
  refine r_cond rfl (fun hc6 => ?_) (fun hc6 => ?_)
  · skip
    try simp only [decide_eq_true_eq, decide_eq_false_iff_not, Bool.not_eq_true', Bool.not_eq_false', Bool.not_not, Bool.not_true, Bool.not_false, Bool.not_eq_true, Bool.not_eq_false, Int.not_lt, Int.not_le, Bool.and_eq_true, Bool.or_eq_true, Bool.and_eq_false_iff, Bool.or_eq_false_iff] at hc6
    have hz : ¬ signsFault s r = 0 := by rw [← chk_two]; exact hc6
    refine r_seq ?_
    refine r_region' ?_
    refine l_q (q_move (v := .int _ _) rfl rfl) ?_
    refine l_q (q_assign (v := .int _ _) rfl rfl) ?_
    refine l_q (q_assign (v := .int _ _) rfl rfl) ?_
    refine l_nil ?_
    refine r_forget [(4, .int _ _), (5, .int _ _)] ⟨rfl, rfl, trivial⟩ (fun e7 => ?_)
    refine r_ret_ (vs := [.int _ _, .int _ _]) rfl Try.func26 rfl (.nil _) ⟨rfl, rfl, trivial⟩ ?_
    exact ⟨tup2 (vint_eq (by rw [errs, if_pos hz])) (vint_eq (by rw [errs, if_pos hz, chk_two])), Ext.of_below hB⟩
  · skip
    try simp only [decide_eq_true_eq, decide_eq_false_iff_not, Bool.not_eq_true', Bool.not_eq_false', Bool.not_not, Bool.not_true, Bool.not_false, Bool.not_eq_true, Bool.not_eq_false, Int.not_lt, Int.not_le, Bool.and_eq_true, Bool.or_eq_true, Bool.and_eq_false_iff, Bool.or_eq_false_iff] at hc6
    have hz : signsFault s r = 0 := by rw [← chk_two]; exact hc6
    refine r_skip ?_
    refine r_seq ?_
    refine r_region' ?_
    refine l_o (o_makeMap rfl ?_)
    intro m w8 hml hmr hM hE8
    have hbs_m : w.heap.size ≤ m := Nat.le_trans hsz hml
    have hMemo := memo_nil
    replace hB := below_ext hB hE8 hsz
    replace ho2 := own_ext ho2 hE8
    replace hsz := Nat.le_trans hsz hE8.size
    refine l_q (q_move (v := .string _) rfl rfl) ?_
    refine l_q (q_move (v := .string _) rfl rfl) ?_
    refine l_q (q_build (v := .agg ⟨[vstr s, vstr r]⟩) (fun w => by kernel_rfl) rfl) ?_
    refine l_o (o_call Try.call59 rfl (fewest_ret _ s r _ m _ _ (Nat.le_refl _) hs hr (sf_zero hz).2.1 hM hMemo) rfl ?_)
    rintro _ w9 ⟨rfl, esc9, ckc9, hMc9, hMm9, hGc9⟩
    replace hB := below_upd_any hB hGc9 hbs_m hsz
    replace hsz : w.heap.size ≤ w9.heap.size := Nat.le_trans hsz hGc9.size
    have hM := hMc9
    have hMemo := hMm9
    refine l_q (q_assign (v := .int _ _) rfl rfl) ?_
    refine l_nil ?_
    refine r_forget [(7, .int _ _)] ⟨rfl, trivial⟩ (fun e10 => ?_)
    refine r_seq ?_
    refine r_seq ?_
    refine r_region' ?_
    refine l_q (q_move (v := .int _ _) rfl rfl) ?_
    refine l_q (q_geq rfl rfl rfl) ?_
    refine l_nil ?_
    refine r_forget [(7, .int _ _), (21, .bool _)] ⟨rfl, rfl, trivial⟩ (fun e11 => ?_)
    refine r_cond rfl (fun hc12 => ?_) (fun hc12 => ?_)
    · skip
      try simp only [decide_eq_true_eq, decide_eq_false_iff_not, Bool.not_eq_true', Bool.not_eq_false', Bool.not_not, Bool.not_true, Bool.not_false, Bool.not_eq_true, Bool.not_eq_false, Int.not_lt, Int.not_le, Bool.and_eq_true, Bool.or_eq_true, Bool.and_eq_false_iff, Bool.or_eq_false_iff] at hc12
      have hf := hc12
      refine r_seq ?_
      refine r_region' ?_
      refine l_q (q_assign (v := .int _ _) rfl rfl) ?_
      refine l_q (q_assign (v := .int _ _) rfl rfl) ?_
      refine l_nil ?_
      refine r_forget [(4, .int _ _), (5, .int _ _)] ⟨rfl, rfl, trivial⟩ (fun e13 => ?_)
      refine r_ret_ (vs := [.int _ _, .int _ _]) rfl Try.func26 rfl (.nil _) ⟨rfl, rfl, trivial⟩ ?_
      exact ⟨tup2 (vint_eq (by rw [errs, if_neg (fun h => h hz), if_pos hf])) (vint_eq (by rw [errs, if_neg (fun h => h hz), if_pos hf])), Ext.of_below hB⟩
    · skip
      try simp only [decide_eq_true_eq, decide_eq_false_iff_not, Bool.not_eq_true', Bool.not_eq_false', Bool.not_not, Bool.not_true, Bool.not_false, Bool.not_eq_true, Bool.not_eq_false, Int.not_lt, Int.not_le, Bool.and_eq_true, Bool.or_eq_true, Bool.and_eq_false_iff, Bool.or_eq_false_iff] at hc12
      have hf := hc12
      refine r_skip ?_
      refine r_seq ?_
      refine r_region' ?_
      refine l_q (q_move (v := .int _ _) rfl rfl) ?_
      refine l_q (q_assign (v := .int _ _) rfl rfl) ?_
      refine l_q (q_assign (v := .int _ _) rfl rfl) ?_
      refine l_nil ?_
      refine r_forget [(4, .int _ _), (5, .int _ _)] ⟨rfl, rfl, trivial⟩ (fun e14 => ?_)
      refine r_ret_ (vs := [.int _ _, .int _ _]) rfl Try.func26 rfl (.nil _) ⟨rfl, rfl, trivial⟩ ?_
      exact ⟨tup2 (vint_eq (by rw [errs, if_neg (fun h => h hz), if_neg (by omega)])) (vint_eq (by rw [errs, if_neg (fun h => h hz), if_neg (by omega)])), Ext.of_below hB⟩
end Go.Proofs.Ytkcbgpilfegofaa
