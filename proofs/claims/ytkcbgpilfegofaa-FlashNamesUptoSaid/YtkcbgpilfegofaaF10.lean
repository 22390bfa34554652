/- Contracts. -/
import Derived.Test.YtkcbgpilfegofaaF9
import Derived.Test.YtkcbgpilfegofaaGvFr
set_option linter.unusedVariables false
set_option linter.unusedSimpArgs false
namespace Go.Proofs.Ytkcbgpilfegofaa
open Go Go.RowKit Go.Gv Go.Fl

def ofK (k : Int) (s : Sg) : Sg × Sg :=
  if k = 0 then (s.take 1, s.take 1)
  else if k = 1 then (if s.getD 0 0 = 32 then ([], [33]) else (s.take 1, []))
  else if k = 2 then (if s.getD 0 0 = 45 then (s.take 1, [46, 46]) else ([], [33]))
  else if k = 3 then (if hasPfx s [46, 46] = true then (s.take 2, [45]) else ([], [33]))
  else if k = 4 then (if s.getD 0 0 = 32 then (s.take 1, []) else ([], [33]))
  else ([], [32])
theorem pfx_len {s p : Sg} (h : hasPfx s p = true) : p.length ≤ s.length := by
  unfold hasPfx at h
  have := congrArg List.length (of_decide_eq_true h)
  rw [List.length_take] at this; omega
theorem ofK_len {k : Nat} {s : Sg} (_hk : k < 6) (_h : k = 5 ∨ 1 ≤ s.length) : (ofK (k : Int) s).1.length ≤ s.length := by
  unfold ofK
  repeat' split
  all_goals simp only [List.length_take, List.length_nil]
  all_goals omega
theorem pfx33 {r : Sg} (h : ∀ x ∈ r, x ≠ 33) : hasPfx r [33] = false := by
  cases r with
  | nil => rfl
  | cons x l =>
    have := h x (by simp)
    unfold hasPfx; rw [decide_eq_false_iff_not]; intro he
    simp at he; exact this he
/-- a step of the program's is the document's -/
theorem ofK_tw' {k : Int} {s : Sg} (hk : 0 ≤ k ∧ k < 6) (h : k = 5 ∨ 1 ≤ s.length) : (stepTW k s = none ∧ (ofK k s).2 = [33]) ∨ stepTW k s = some ((ofK k s).1.length, (ofK k s).2) := by
  have ht : 1 ≤ s.length → (s.take 1).length = 1 := fun h => by rw [List.length_take]; omega
  have hn : 1 ≤ s.length → s ≠ [] := fun h h0 => by subst h0; simp at h
  rcases (show k = 0 ∨ k = 1 ∨ k = 2 ∨ k = 3 ∨ k = 4 ∨ k = 5 by omega) with rfl | rfl | rfl | rfl | rfl | rfl
  · have h := h.resolve_left (by decide)
    right
    show (if s = [] then none else some (1, s.take 1)) = some ((s.take 1).length, s.take 1)
    rw [if_neg (hn h), ht h]
  · have h := h.resolve_left (by decide)
    have e1 : stepTW 1 s = if s = [] ∨ s.getD 0 0 = 32 then none else some (1, []) := rfl
    have e2 : ofK 1 s = if s.getD 0 0 = 32 then ([], [33]) else (s.take 1, []) := rfl
    rw [e1, e2]
    by_cases hb : s.getD 0 0 = 32
    · left; rw [if_pos (.inr hb), if_pos hb]; exact ⟨rfl, rfl⟩
    · right; rw [if_neg (fun hx => hx.elim (hn h) hb), if_neg hb, ht h]
  · have h := h.resolve_left (by decide)
    have e1 : stepTW 2 s = if s = [] ∨ s.getD 0 0 ≠ 45 then none else some (1, [46, 46]) := rfl
    have e2 : ofK 2 s = if s.getD 0 0 = 45 then (s.take 1, [46, 46]) else ([], [33]) := rfl
    rw [e1, e2]
    by_cases hb : s.getD 0 0 = 45
    · right; rw [if_neg (fun hx => hx.elim (hn h) (fun hx => hx hb)), if_pos hb, ht h]
    · left; rw [if_pos (.inr hb), if_neg hb]; exact ⟨rfl, rfl⟩
  · have h := h.resolve_left (by decide)
    have e1 : stepTW 3 s = if s.length < 2 ∨ s.take 2 ≠ [46, 46] then none else some (2, [45]) := rfl
    have e2 : ofK 3 s = if hasPfx s [46, 46] = true then (s.take 2, [45]) else ([], [33]) := rfl
    rw [e1, e2]
    by_cases hb : hasPfx s [46, 46] = true
    · right
      have hl : 2 ≤ s.length := pfx_len hb
      have h2 : s.take 2 = [46, 46] := of_decide_eq_true hb
      rw [if_neg (fun hx => hx.elim (fun hx => by omega) (fun hx => hx h2)), if_pos hb, List.length_take, Nat.min_eq_left hl]
    · left
      rw [if_pos (.inr (fun h2 => hb (decide_eq_true h2))), if_neg hb]; exact ⟨rfl, rfl⟩
  · have h := h.resolve_left (by decide)
    have e1 : stepTW 4 s = if s = [] ∨ s.getD 0 0 ≠ 32 then none else some (1, []) := rfl
    have e2 : ofK 4 s = if s.getD 0 0 = 32 then (s.take 1, []) else ([], [33]) := rfl
    rw [e1, e2]
    by_cases hb : s.getD 0 0 = 32
    · right; rw [if_neg (fun hx => hx.elim (hn h) (fun hx => hx hb)), if_pos hb, ht h]
    · left; rw [if_pos (.inr hb), if_neg hb]; exact ⟨rfl, rfl⟩
  · right; rfl
theorem ofK_tw {k : Nat} {s : Sg} (hk : k < 6) (h : k = 5 ∨ 1 ≤ s.length) : (stepTW (k : Int) s = none ∧ (ofK (k : Int) s).2 = [33]) ∨ stepTW (k : Int) s = some ((ofK (k : Int) s).1.length, (ofK (k : Int) s).2) :=
  ofK_tw' (by omega) (h.imp (fun h => by omega) id)
theorem ofK_step {k : Nat} {s r : Sg} (hk : k < 6) (h : k = 5 ∨ 1 ≤ s.length) (hr : ∀ x ∈ r, x ≠ 33) (hp : hasPfx r (ofK (k : Int) s).2 = true) : stepR (k : Int) s r = (s.drop (ofK (k : Int) s).1.length, r.drop (ofK (k : Int) s).2.length, true) := by
  rcases ofK_tw hk h with ⟨_, h1⟩ | h1
  · rw [h1, pfx33 hr] at hp; cases hp
  · exact stepR_yes h1 hp
theorem ofK_no {k : Nat} {s r : Sg} (hk : k < 6) (h : k = 5 ∨ 1 ≤ s.length) (hr : ∀ x ∈ r, x ≠ 33) (hp : hasPfx r (ofK (k : Int) s).2 = false) : (stepR (k : Int) s r).2.2 = false := by
  rcases ofK_tw hk h with ⟨h1, _⟩ | h1
  · rw [stepR_none h1]
  · rw [stepR_no h1 hp]
theorem step_empty {k : Nat} {s r : Sg} (h : s = []) (hk : k < 5) : (stepR (k : Int) s r).2.2 = false := by
  subst h
  have : stepTW (k : Int) [] = none := by
    rcases (show k = 0 ∨ k = 1 ∨ k = 2 ∨ k = 3 ∨ k = 4 by omega) with rfl | rfl | rfl | rfl | rfl <;> simp [stepTW]
  rw [stepR_none this]

theorem fld93_0 (w : World) (b o : Nat) : (Instr.fieldAt 93 (ptr b o) 0).run Try.prog w = .ok (ptr b (o + 0)) w := by
  simp [Instr.fieldAt, run_underlying Try.underlying93, fieldPlace, Instr.sureAddr, Try.sizeOf9, Addr.add_lit]
theorem el99 : Elem Try.prog 99 (.agg ⟨[vint 0, vint 0, .nilFunc]⟩) 3 24 := elem_of (by kernel_rfl) rfl (by decide)
theorem fld99_0 (w : World) (b o : Nat) : (Instr.fieldAt 99 (ptr b o) 0).run Try.prog w = .ok (ptr b (o + 0)) w := by
  simp [Instr.fieldAt, run_underlying Try.underlying99, fieldPlace, Instr.sureAddr, Try.sizeOf3, Addr.add_lit]
theorem fld99_2 (w : World) (b o : Nat) : (Instr.fieldAt 99 (ptr b o) 2).run Try.prog w = .ok (ptr b (o + 2)) w := by
  simp [Instr.fieldAt, run_underlying Try.underlying99, fieldPlace, Instr.sureAddr, Try.sizeOf97, Addr.add_lit]
theorem fld93_1 (w : World) (b o : Nat) : (Instr.fieldAt 93 (ptr b o) 1).run Try.prog w = .ok (ptr b (o + 1)) w := by
  simp [Instr.fieldAt, run_underlying Try.underlying93, fieldPlace, Instr.sureAddr, Try.sizeOf9, Addr.add_lit]
theorem never_ret (w : World) : Ret Try.prog 122 [] w (fun v w' => v = .tuple ⟨[vstr [], vstr [33]]⟩ ∧ w = w') := by
  have hB := Below.refl w.heap.size w
  have hsz : w.heap.size ≤ w.heap.size := Nat.le_refl _
  refine ret_of_runs (args := []) Try.func122 rfl (Nat.le_of_ble_eq_true rfl) (by kernel_rfl) ?_
  refine r_seq ?_
  refine r_region' ?_
  refine l_q (q_assign (v := .string _) rfl rfl) ?_
  refine l_q (q_assign (v := .string _) rfl rfl) ?_
  refine l_nil ?_
  refine r_forget [] trivial (fun e1 => ?_)
  refine r_seq ?_
  refine r_region' ?_
  refine l_q (q_assign (v := .string _) rfl rfl) ?_
  refine l_q (q_assign (v := .string _) rfl rfl) ?_
  refine l_nil ?_
  refine r_ret_ (vs := [.string _, .string _]) rfl Try.func122 rfl (.nil _) ⟨rfl, rfl, trivial⟩ ?_
  exact ⟨rfl, rfl⟩
theorem k0_ret (s r : Sg) (w : World) (hs : s.length ≤ 2097152) (hs0 : 1 ≤ s.length) : Ret Try.prog 108 [.agg ⟨[vstr s, vstr r]⟩] w (fun v w' => v = .tuple ⟨[vstr ((ofK (0 : Int) s).1), vstr ((ofK (0 : Int) s).2)]⟩ ∧ Ext w w') := by
  have hB := Below.refl w.heap.size w
  have hsz : w.heap.size ≤ w.heap.size := Nat.le_refl _
  refine ret_of_runs (args := [_]) Try.func108 rfl (Nat.le_of_ble_eq_true rfl) (by kernel_rfl) ?_
  refine r_seq ?_
  refine r_region' ?_
  refine l_o (o_box rfl rfl rfl ?_)
  intro b1 w1 hzl1 hzr1 _ hb1 hE1
  have hbs_b1 : w.heap.size ≤ b1 := Nat.le_trans hsz hzl1
  replace hB := below_ext hB hE1 hsz
  replace hsz := Nat.le_trans hsz hE1.size
  refine l_q (q_assign (v := .string _) rfl rfl) ?_
  refine l_q (q_assign (v := .string _) rfl rfl) ?_
  refine l_nil ?_
  refine r_forget [(1, .pointer _)] ⟨rfl, trivial⟩ (fun e2 => ?_)
  refine r_seq ?_
  refine r_draw ext_refl' ext_trans' [0, 1, 2, 3, 4, 5, 6, 7] [] 2 (by kernel_rfl) (by kernel_rfl) ?_
  intro w3 _ hE3
  replace hB := below_ext hB hE3 hsz
  replace hb1 := hb1.ext hE3
  replace hsz := Nat.le_trans hsz hE3.size
  refine m_q rfl rfl (fun w' hC' => q_fieldAddr (o' := 0) rfl fld93_0 rfl) ?_
  refine m_q rfl rfl (fun w' hC' => q_load Try.isAgg9 rfl (((hb1.has (o := 0) rfl).ext hC')) rfl) ?_
  refine m_q rfl rfl (fun w' hC' => q_slice_str_hi Try.underlying9 rfl rfl (by omega) rfl) ?_
  refine m_q rfl rfl (fun w' hC' => q_fieldAddr (o' := 0) rfl fld93_0 rfl) ?_
  refine m_q rfl rfl (fun w' hC' => q_load Try.isAgg9 rfl (((hb1.has (o := 0) rfl).ext hC')) rfl) ?_
  refine m_q rfl rfl (fun w' hC' => q_slice_str_hi Try.underlying9 rfl rfl (by omega) rfl) ?_
  refine m_q rfl rfl (fun w' hC' => q_assign (v := .string _) rfl rfl) ?_
  refine m_q rfl rfl (fun w' hC' => q_assign (v := .string _) rfl rfl) ?_
  refine m_nil ?_
  refine r_forget [(2, .string _), (3, .string _)] ⟨rfl, rfl, trivial⟩ (fun e4 => ?_)
  refine r_ret_ (vs := [.string _, .string _]) rfl Try.func108 rfl (.nil _) ⟨rfl, rfl, trivial⟩ ?_
  exact ⟨rfl, Ext.of_below hB⟩
theorem k1_ret (s r : Sg) (w : World) (hs : s.length ≤ 2097152) (hs0 : 1 ≤ s.length) : Ret Try.prog 109 [.agg ⟨[vstr s, vstr r]⟩] w (fun v w' => v = .tuple ⟨[vstr ((ofK (1 : Int) s).1), vstr ((ofK (1 : Int) s).2)]⟩ ∧ Ext w w') := by
  have hB := Below.refl w.heap.size w
  have hsz : w.heap.size ≤ w.heap.size := Nat.le_refl _
  refine ret_of_runs (args := [_]) Try.func109 rfl (Nat.le_of_ble_eq_true rfl) (by kernel_rfl) ?_
  refine r_seq ?_
  refine r_region' ?_
  refine l_o (o_box rfl rfl rfl ?_)
  intro b1 w1 hzl1 hzr1 _ hb1 hE1
  have hbs_b1 : w.heap.size ≤ b1 := Nat.le_trans hsz hzl1
  replace hB := below_ext hB hE1 hsz
  replace hsz := Nat.le_trans hsz hE1.size
  refine l_q (q_assign (v := .string _) rfl rfl) ?_
  refine l_q (q_assign (v := .string _) rfl rfl) ?_
  refine l_nil ?_
  refine r_forget [(1, .pointer _)] ⟨rfl, trivial⟩ (fun e2 => ?_)
  refine r_seq ?_
  refine r_seq ?_
  refine r_region' ?_
  refine l_q (q_fieldAddr (o' := 0) rfl fld93_0 rfl) ?_
  refine l_q (q_load Try.isAgg9 rfl ((hb1.has (o := 0) rfl)) rfl) ?_
  refine l_q (q_index_str (c := (s).getD 0 0) Try.underlying9 rfl rfl (by omega) (getD_some (by omega)) rfl) ?_
  refine l_q (q_eql rfl rfl rfl) ?_
  refine l_nil ?_
  refine r_forget [(1, .pointer _), (7, .bool _)] ⟨rfl, rfl, trivial⟩ (fun e3 => ?_)
  refine r_cond rfl (fun hc4 => ?_) (fun hc4 => ?_)
  · skip
    try simp only [decide_eq_true_eq, decide_eq_false_iff_not, Bool.not_eq_true', Bool.not_eq_false', Bool.not_not, Bool.not_true, Bool.not_false, Bool.not_eq_true, Bool.not_eq_false, Int.not_lt, Int.not_le, Bool.and_eq_true, Bool.or_eq_true, Bool.and_eq_false_iff, Bool.or_eq_false_iff] at hc4
    have hb := u8_eq (n := 32) hc4
    refine r_seq ?_
    refine r_region' ?_
    refine l_o (o_call Try.call122 rfl (never_ret _) rfl ?_)
    rintro _ w5 ⟨rfl, rfl⟩
    refine l_q (q_extract (vs := [_, _]) (v := .string _) rfl rfl rfl) ?_
    refine l_q (q_extract (vs := [_, _]) (v := .string _) rfl rfl rfl) ?_
    refine l_q (q_assign (v := .string _) rfl rfl) ?_
    refine l_q (q_assign (v := .string _) rfl rfl) ?_
    refine l_nil ?_
    refine r_forget [(2, .string _), (3, .string _)] ⟨rfl, rfl, trivial⟩ (fun e6 => ?_)
    refine r_ret_ (vs := [.string _, .string _]) rfl Try.func109 rfl (.nil _) ⟨rfl, rfl, trivial⟩ ?_
    exact ⟨tup2 (vstr_eq (by unfold ofK; simp_all)) (vstr_eq (by unfold ofK; simp_all)), Ext.of_below hB⟩
  · skip
    try simp only [decide_eq_true_eq, decide_eq_false_iff_not, Bool.not_eq_true', Bool.not_eq_false', Bool.not_not, Bool.not_true, Bool.not_false, Bool.not_eq_true, Bool.not_eq_false, Int.not_lt, Int.not_le, Bool.and_eq_true, Bool.or_eq_true, Bool.and_eq_false_iff, Bool.or_eq_false_iff] at hc4
    have hb := u8_ne (n := 32) hc4
    refine r_skip ?_
    refine r_seq ?_
    refine r_region' ?_
    refine l_q (q_fieldAddr (o' := 0) rfl fld93_0 rfl) ?_
    refine l_q (q_load Try.isAgg9 rfl ((hb1.has (o := 0) rfl)) rfl) ?_
    refine l_q (q_slice_str_hi Try.underlying9 rfl rfl (by omega) rfl) ?_
    refine l_q (q_assign (v := .string _) rfl rfl) ?_
    refine l_q (q_assign (v := .string _) rfl rfl) ?_
    refine l_nil ?_
    refine r_forget [(2, .string _), (3, .string _)] ⟨rfl, rfl, trivial⟩ (fun e7 => ?_)
    refine r_ret_ (vs := [.string _, .string _]) rfl Try.func109 rfl (.nil _) ⟨rfl, rfl, trivial⟩ ?_
    exact ⟨tup2 (vstr_eq (by unfold ofK; simp_all)) (vstr_eq (by unfold ofK; simp_all)), Ext.of_below hB⟩
theorem k2_ret (s r : Sg) (w : World) (hs : s.length ≤ 2097152) (hs0 : 1 ≤ s.length) : Ret Try.prog 110 [.agg ⟨[vstr s, vstr r]⟩] w (fun v w' => v = .tuple ⟨[vstr ((ofK (2 : Int) s).1), vstr ((ofK (2 : Int) s).2)]⟩ ∧ Ext w w') := by
  have hB := Below.refl w.heap.size w
  have hsz : w.heap.size ≤ w.heap.size := Nat.le_refl _
  refine ret_of_runs (args := [_]) Try.func110 rfl (Nat.le_of_ble_eq_true rfl) (by kernel_rfl) ?_
  refine r_seq ?_
  refine r_region' ?_
  refine l_o (o_box rfl rfl rfl ?_)
  intro b1 w1 hzl1 hzr1 _ hb1 hE1
  have hbs_b1 : w.heap.size ≤ b1 := Nat.le_trans hsz hzl1
  replace hB := below_ext hB hE1 hsz
  replace hsz := Nat.le_trans hsz hE1.size
  refine l_q (q_assign (v := .string _) rfl rfl) ?_
  refine l_q (q_assign (v := .string _) rfl rfl) ?_
  refine l_nil ?_
  refine r_forget [(1, .pointer _)] ⟨rfl, trivial⟩ (fun e2 => ?_)
  refine r_seq ?_
  refine r_seq ?_
  refine r_region' ?_
  refine l_q (q_fieldAddr (o' := 0) rfl fld93_0 rfl) ?_
  refine l_q (q_load Try.isAgg9 rfl ((hb1.has (o := 0) rfl)) rfl) ?_
  refine l_q (q_index_str (c := (s).getD 0 0) Try.underlying9 rfl rfl (by omega) (getD_some (by omega)) rfl) ?_
  refine l_q (q_neq rfl rfl rfl) ?_
  refine l_nil ?_
  refine r_forget [(1, .pointer _), (7, .bool _)] ⟨rfl, rfl, trivial⟩ (fun e3 => ?_)
  refine r_cond rfl (fun hc4 => ?_) (fun hc4 => ?_)
  · skip
    try simp only [decide_eq_true_eq, decide_eq_false_iff_not, Bool.not_eq_true', Bool.not_eq_false', Bool.not_not, Bool.not_true, Bool.not_false, Bool.not_eq_true, Bool.not_eq_false, Int.not_lt, Int.not_le, Bool.and_eq_true, Bool.or_eq_true, Bool.and_eq_false_iff, Bool.or_eq_false_iff] at hc4
    have hb := u8_ne (n := 45) hc4
    refine r_seq ?_
    refine r_region' ?_
    refine l_o (o_call Try.call122 rfl (never_ret _) rfl ?_)
    rintro _ w5 ⟨rfl, rfl⟩
    refine l_q (q_extract (vs := [_, _]) (v := .string _) rfl rfl rfl) ?_
    refine l_q (q_extract (vs := [_, _]) (v := .string _) rfl rfl rfl) ?_
    refine l_q (q_assign (v := .string _) rfl rfl) ?_
    refine l_q (q_assign (v := .string _) rfl rfl) ?_
    refine l_nil ?_
    refine r_forget [(2, .string _), (3, .string _)] ⟨rfl, rfl, trivial⟩ (fun e6 => ?_)
    refine r_ret_ (vs := [.string _, .string _]) rfl Try.func110 rfl (.nil _) ⟨rfl, rfl, trivial⟩ ?_
    exact ⟨tup2 (vstr_eq (by unfold ofK; simp_all)) (vstr_eq (by unfold ofK; simp_all)), Ext.of_below hB⟩
  · skip
    try simp only [decide_eq_true_eq, decide_eq_false_iff_not, Bool.not_eq_true', Bool.not_eq_false', Bool.not_not, Bool.not_true, Bool.not_false, Bool.not_eq_true, Bool.not_eq_false, Int.not_lt, Int.not_le, Bool.and_eq_true, Bool.or_eq_true, Bool.and_eq_false_iff, Bool.or_eq_false_iff] at hc4
    have hb := u8_eq (n := 45) hc4
    refine r_skip ?_
    refine r_seq ?_
    refine r_region' ?_
    refine l_q (q_fieldAddr (o' := 0) rfl fld93_0 rfl) ?_
    refine l_q (q_load Try.isAgg9 rfl ((hb1.has (o := 0) rfl)) rfl) ?_
    refine l_q (q_slice_str_hi Try.underlying9 rfl rfl (by omega) rfl) ?_
    refine l_q (q_assign (v := .string _) rfl rfl) ?_
    refine l_q (q_assign (v := .string _) rfl rfl) ?_
    refine l_nil ?_
    refine r_forget [(2, .string _), (3, .string _)] ⟨rfl, rfl, trivial⟩ (fun e7 => ?_)
    refine r_ret_ (vs := [.string _, .string _]) rfl Try.func110 rfl (.nil _) ⟨rfl, rfl, trivial⟩ ?_
    exact ⟨tup2 (vstr_eq (by unfold ofK; simp_all)) (vstr_eq (by unfold ofK; simp_all)), Ext.of_below hB⟩
theorem k3_ret (s r : Sg) (w : World) (hs : s.length ≤ 2097152) (hs0 : 1 ≤ s.length) : Ret Try.prog 111 [.agg ⟨[vstr s, vstr r]⟩] w (fun v w' => v = .tuple ⟨[vstr ((ofK (3 : Int) s).1), vstr ((ofK (3 : Int) s).2)]⟩ ∧ Ext w w') := by
  have hB := Below.refl w.heap.size w
  have hsz : w.heap.size ≤ w.heap.size := Nat.le_refl _
  refine ret_of_runs (args := [_]) Try.func111 rfl (Nat.le_of_ble_eq_true rfl) (by kernel_rfl) ?_
  refine r_seq ?_
  refine r_region' ?_
  refine l_o (o_box rfl rfl rfl ?_)
  intro b1 w1 hzl1 hzr1 _ hb1 hE1
  have hbs_b1 : w.heap.size ≤ b1 := Nat.le_trans hsz hzl1
  replace hB := below_ext hB hE1 hsz
  replace hsz := Nat.le_trans hsz hE1.size
  refine l_q (q_assign (v := .string _) rfl rfl) ?_
  refine l_q (q_assign (v := .string _) rfl rfl) ?_
  refine l_nil ?_
  refine r_forget [(1, .pointer _)] ⟨rfl, trivial⟩ (fun e2 => ?_)
  refine r_seq ?_
  refine r_seq ?_
  refine r_region' ?_
  refine l_q (q_fieldAddr (o' := 0) rfl fld93_0 rfl) ?_
  refine l_q (q_load Try.isAgg9 rfl ((hb1.has (o := 0) rfl)) rfl) ?_
  refine l_o (o_call Try.call88 rfl (hasPrefix_ret _ _ _) rfl ?_)
  rintro _ w3 ⟨rfl, rfl⟩
  refine l_q (q_not rfl rfl) ?_
  refine l_nil ?_
  refine r_forget [(1, .pointer _), (7, .bool _)] ⟨rfl, rfl, trivial⟩ (fun e4 => ?_)
  refine r_cond rfl (fun hc5 => ?_) (fun hc5 => ?_)
  · skip
    try simp only [decide_eq_true_eq, decide_eq_false_iff_not, Bool.not_eq_true', Bool.not_eq_false', Bool.not_not, Bool.not_true, Bool.not_false, Bool.not_eq_true, Bool.not_eq_false, Int.not_lt, Int.not_le, Bool.and_eq_true, Bool.or_eq_true, Bool.and_eq_false_iff, Bool.or_eq_false_iff] at hc5
    have hb := hc5
    refine r_seq ?_
    refine r_region' ?_
    refine l_o (o_call Try.call122 rfl (never_ret _) rfl ?_)
    rintro _ w6 ⟨rfl, rfl⟩
    refine l_q (q_extract (vs := [_, _]) (v := .string _) rfl rfl rfl) ?_
    refine l_q (q_extract (vs := [_, _]) (v := .string _) rfl rfl rfl) ?_
    refine l_q (q_assign (v := .string _) rfl rfl) ?_
    refine l_q (q_assign (v := .string _) rfl rfl) ?_
    refine l_nil ?_
    refine r_forget [(2, .string _), (3, .string _)] ⟨rfl, rfl, trivial⟩ (fun e7 => ?_)
    refine r_ret_ (vs := [.string _, .string _]) rfl Try.func111 rfl (.nil _) ⟨rfl, rfl, trivial⟩ ?_
    exact ⟨tup2 (vstr_eq (by unfold ofK; simp_all)) (vstr_eq (by unfold ofK; simp_all)), Ext.of_below hB⟩
  · skip
    try simp only [decide_eq_true_eq, decide_eq_false_iff_not, Bool.not_eq_true', Bool.not_eq_false', Bool.not_not, Bool.not_true, Bool.not_false, Bool.not_eq_true, Bool.not_eq_false, Int.not_lt, Int.not_le, Bool.and_eq_true, Bool.or_eq_true, Bool.and_eq_false_iff, Bool.or_eq_false_iff] at hc5
    have hb := hc5
    have hl2 : 2 ≤ s.length := pfx_len hb
    refine r_skip ?_
    refine r_seq ?_
    refine r_region' ?_
    refine l_q (q_fieldAddr (o' := 0) rfl fld93_0 rfl) ?_
    refine l_q (q_load Try.isAgg9 rfl ((hb1.has (o := 0) rfl)) rfl) ?_
    refine l_q (q_slice_str_hi Try.underlying9 rfl rfl (by omega) rfl) ?_
    refine l_q (q_assign (v := .string _) rfl rfl) ?_
    refine l_q (q_assign (v := .string _) rfl rfl) ?_
    refine l_nil ?_
    refine r_forget [(2, .string _), (3, .string _)] ⟨rfl, rfl, trivial⟩ (fun e8 => ?_)
    refine r_ret_ (vs := [.string _, .string _]) rfl Try.func111 rfl (.nil _) ⟨rfl, rfl, trivial⟩ ?_
    exact ⟨tup2 (vstr_eq (by unfold ofK; simp_all)) (vstr_eq (by unfold ofK; simp_all)), Ext.of_below hB⟩
theorem k4_ret (s r : Sg) (w : World) (hs : s.length ≤ 2097152) (hs0 : 1 ≤ s.length) : Ret Try.prog 112 [.agg ⟨[vstr s, vstr r]⟩] w (fun v w' => v = .tuple ⟨[vstr ((ofK (4 : Int) s).1), vstr ((ofK (4 : Int) s).2)]⟩ ∧ Ext w w') := by
  have hB := Below.refl w.heap.size w
  have hsz : w.heap.size ≤ w.heap.size := Nat.le_refl _
  refine ret_of_runs (args := [_]) Try.func112 rfl (Nat.le_of_ble_eq_true rfl) (by kernel_rfl) ?_
  refine r_seq ?_
  refine r_region' ?_
  refine l_o (o_box rfl rfl rfl ?_)
  intro b1 w1 hzl1 hzr1 _ hb1 hE1
  have hbs_b1 : w.heap.size ≤ b1 := Nat.le_trans hsz hzl1
  replace hB := below_ext hB hE1 hsz
  replace hsz := Nat.le_trans hsz hE1.size
  refine l_q (q_assign (v := .string _) rfl rfl) ?_
  refine l_q (q_assign (v := .string _) rfl rfl) ?_
  refine l_nil ?_
  refine r_forget [(1, .pointer _)] ⟨rfl, trivial⟩ (fun e2 => ?_)
  refine r_seq ?_
  refine r_seq ?_
  refine r_region' ?_
  refine l_q (q_fieldAddr (o' := 0) rfl fld93_0 rfl) ?_
  refine l_q (q_load Try.isAgg9 rfl ((hb1.has (o := 0) rfl)) rfl) ?_
  refine l_q (q_index_str (c := (s).getD 0 0) Try.underlying9 rfl rfl (by omega) (getD_some (by omega)) rfl) ?_
  refine l_q (q_neq rfl rfl rfl) ?_
  refine l_nil ?_
  refine r_forget [(1, .pointer _), (7, .bool _)] ⟨rfl, rfl, trivial⟩ (fun e3 => ?_)
  refine r_cond rfl (fun hc4 => ?_) (fun hc4 => ?_)
  · skip
    try simp only [decide_eq_true_eq, decide_eq_false_iff_not, Bool.not_eq_true', Bool.not_eq_false', Bool.not_not, Bool.not_true, Bool.not_false, Bool.not_eq_true, Bool.not_eq_false, Int.not_lt, Int.not_le, Bool.and_eq_true, Bool.or_eq_true, Bool.and_eq_false_iff, Bool.or_eq_false_iff] at hc4
    have hb := u8_ne (n := 32) hc4
    refine r_seq ?_
    refine r_region' ?_
    refine l_o (o_call Try.call122 rfl (never_ret _) rfl ?_)
    rintro _ w5 ⟨rfl, rfl⟩
    refine l_q (q_extract (vs := [_, _]) (v := .string _) rfl rfl rfl) ?_
    refine l_q (q_extract (vs := [_, _]) (v := .string _) rfl rfl rfl) ?_
    refine l_q (q_assign (v := .string _) rfl rfl) ?_
    refine l_q (q_assign (v := .string _) rfl rfl) ?_
    refine l_nil ?_
    refine r_forget [(2, .string _), (3, .string _)] ⟨rfl, rfl, trivial⟩ (fun e6 => ?_)
    refine r_ret_ (vs := [.string _, .string _]) rfl Try.func112 rfl (.nil _) ⟨rfl, rfl, trivial⟩ ?_
    exact ⟨tup2 (vstr_eq (by unfold ofK; simp_all)) (vstr_eq (by unfold ofK; simp_all)), Ext.of_below hB⟩
  · skip
    try simp only [decide_eq_true_eq, decide_eq_false_iff_not, Bool.not_eq_true', Bool.not_eq_false', Bool.not_not, Bool.not_true, Bool.not_false, Bool.not_eq_true, Bool.not_eq_false, Int.not_lt, Int.not_le, Bool.and_eq_true, Bool.or_eq_true, Bool.and_eq_false_iff, Bool.or_eq_false_iff] at hc4
    have hb := u8_eq (n := 32) hc4
    refine r_skip ?_
    refine r_seq ?_
    refine r_region' ?_
    refine l_q (q_fieldAddr (o' := 0) rfl fld93_0 rfl) ?_
    refine l_q (q_load Try.isAgg9 rfl ((hb1.has (o := 0) rfl)) rfl) ?_
    refine l_q (q_slice_str_hi Try.underlying9 rfl rfl (by omega) rfl) ?_
    refine l_q (q_assign (v := .string _) rfl rfl) ?_
    refine l_q (q_assign (v := .string _) rfl rfl) ?_
    refine l_nil ?_
    refine r_forget [(2, .string _), (3, .string _)] ⟨rfl, rfl, trivial⟩ (fun e7 => ?_)
    refine r_ret_ (vs := [.string _, .string _]) rfl Try.func112 rfl (.nil _) ⟨rfl, rfl, trivial⟩ ?_
    exact ⟨tup2 (vstr_eq (by unfold ofK; simp_all)) (vstr_eq (by unfold ofK; simp_all)), Ext.of_below hB⟩
theorem k5_ret (s r : Sg) (w : World) (hs : s.length ≤ 2097152) : Ret Try.prog 113 [.agg ⟨[vstr s, vstr r]⟩] w (fun v w' => v = .tuple ⟨[vstr ((ofK (5 : Int) s).1), vstr ((ofK (5 : Int) s).2)]⟩ ∧ Ext w w') := by
  have hB := Below.refl w.heap.size w
  have hsz : w.heap.size ≤ w.heap.size := Nat.le_refl _
  refine ret_of_runs (args := [_]) Try.func113 rfl (Nat.le_of_ble_eq_true rfl) (by kernel_rfl) ?_
  refine r_seq ?_
  refine r_region' ?_
  refine l_o (o_box rfl rfl rfl ?_)
  intro b1 w1 hzl1 hzr1 _ hb1 hE1
  have hbs_b1 : w.heap.size ≤ b1 := Nat.le_trans hsz hzl1
  replace hB := below_ext hB hE1 hsz
  replace hsz := Nat.le_trans hsz hE1.size
  refine l_q (q_assign (v := .string _) rfl rfl) ?_
  refine l_q (q_assign (v := .string _) rfl rfl) ?_
  refine l_nil ?_
  refine r_forget [] trivial (fun e2 => ?_)
  refine r_seq ?_
  refine r_region' ?_
  refine l_q (q_assign (v := .string _) rfl rfl) ?_
  refine l_q (q_assign (v := .string _) rfl rfl) ?_
  refine l_nil ?_
  refine r_ret_ (vs := [.string _, .string _]) rfl Try.func113 rfl (.nil _) ⟨rfl, rfl, trivial⟩ ?_
  exact ⟨rfl, Ext.of_below hB⟩
def kindCells : List Value := [vint 0, vint 0, .func (.func 108) ⟨[]⟩ ⟨[]⟩, vint 1, vint 1, .func (.func 109) ⟨[]⟩ ⟨[]⟩, vint 2, vint 1, .func (.func 110) ⟨[]⟩ ⟨[]⟩, vint 3, vint 1, .func (.func 111) ⟨[]⟩ ⟨[]⟩, vint 4, vint 1, .func (.func 112) ⟨[]⟩ ⟨[]⟩, vint 5, vint 1, .func (.func 113) ⟨[]⟩ ⟨[]⟩]
theorem kinds_ret (w : World) : Ret Try.prog 87 [] w (fun v w' => ∃ b, v = .slice (some ⟨b, 0, none⟩) 6 6 ∧ w.heap.size ≤ b ∧ Blk w' b kindCells ∧ Ext w w') := by
  have hB := Below.refl w.heap.size w
  have hsz : w.heap.size ≤ w.heap.size := Nat.le_refl _
  refine ret_of_runs (args := []) Try.func87 rfl (Nat.le_of_ble_eq_true rfl) (by kernel_rfl) ?_
  refine r_seq ?_
  refine r_region' ?_
  refine l_q (q_assign (v := .slice _ _ _) rfl rfl) ?_
  refine l_nil ?_
  refine r_forget [] trivial (fun e1 => ?_)
  refine r_seq ?_
  refine r_region' ?_
  refine l_q (q_build (v := .agg ⟨[vint 0, vint 0, .func (.func 108) ⟨[]⟩ ⟨[]⟩]⟩) (fun w => by kernel_rfl) rfl) ?_
  refine l_q (q_build (v := .agg ⟨[vint 1, vint 1, .func (.func 109) ⟨[]⟩ ⟨[]⟩]⟩) (fun w => by kernel_rfl) rfl) ?_
  refine l_q (q_build (v := .agg ⟨[vint 2, vint 1, .func (.func 110) ⟨[]⟩ ⟨[]⟩]⟩) (fun w => by kernel_rfl) rfl) ?_
  refine l_q (q_build (v := .agg ⟨[vint 3, vint 1, .func (.func 111) ⟨[]⟩ ⟨[]⟩]⟩) (fun w => by kernel_rfl) rfl) ?_
  refine l_q (q_build (v := .agg ⟨[vint 4, vint 1, .func (.func 112) ⟨[]⟩ ⟨[]⟩]⟩) (fun w => by kernel_rfl) rfl) ?_
  refine l_q (q_build (v := .agg ⟨[vint 5, vint 1, .func (.func 113) ⟨[]⟩ ⟨[]⟩]⟩) (fun w => by kernel_rfl) rfl) ?_
  refine l_o (o_buildSlice (el := 99) (cs := [vint 0, vint 0, .func (.func 108) ⟨[]⟩ ⟨[]⟩, vint 1, vint 1, .func (.func 109) ⟨[]⟩ ⟨[]⟩, vint 2, vint 1, .func (.func 110) ⟨[]⟩ ⟨[]⟩, vint 3, vint 1, .func (.func 111) ⟨[]⟩ ⟨[]⟩, vint 4, vint 1, .func (.func 112) ⟨[]⟩ ⟨[]⟩, vint 5, vint 1, .func (.func 113) ⟨[]⟩ ⟨[]⟩]) Try.underlying123 el99 (by decide) (by kernel_rfl) rfl (by decide) rfl ?_)
  intro b2 w2 hzl2 hzr2 _ hb2 hE2 ho2
  have hbs_b2 : w.heap.size ≤ b2 := Nat.le_trans hsz hzl2
  replace hB := below_ext hB hE2 hsz
  replace hsz := Nat.le_trans hsz hE2.size
  refine l_q (q_assign (v := .slice _ _ _) rfl rfl) ?_
  refine l_nil ?_
  refine r_forget [(0, .slice _ _ _)] ⟨rfl, trivial⟩ (fun e3 => ?_)
  refine r_ret_ (vs := [.slice _ _ _]) rfl Try.func87 rfl (.nil _) ⟨rfl, trivial⟩ ?_
  exact ⟨_, rfl, hbs_b2, hb2, Ext.of_below hB⟩
theorem kinds_at {w : World} {b k : Nat} (h : Blk w b kindCells) (hk : k < 6) : Cells w b (0 + k * 3) [vint (k : Int), vint (cost (k : Int)), .func (.func (108 + k)) ⟨[]⟩ ⟨[]⟩] := by
  have hc := h.cells0
  intro j v hj
  have h2 := hc (k * 3 + j) v (by
    rcases (show k = 0 ∨ k = 1 ∨ k = 2 ∨ k = 3 ∨ k = 4 ∨ k = 5 by omega) with rfl | rfl | rfl | rfl | rfl | rfl <;>
      (rcases j with _ | _ | _ | j <;> first | (exact hj) | (simp at hj)))
  rwa [← Nat.add_assoc] at h2
theorem kind_in {k : Nat} (hk : k < 6) : ∀ args w, (callFunc (108 + k) args).run Try.prog w = .ok (.enter (108 + k) args) w := by
  rcases (show k = 0 ∨ k = 1 ∨ k = 2 ∨ k = 3 ∨ k = 4 ∨ k = 5 by omega) with rfl | rfl | rfl | rfl | rfl | rfl
  · exact Try.call108
  · exact Try.call109
  · exact Try.call110
  · exact Try.call111
  · exact Try.call112
  · exact Try.call113
theorem kind_ret (k : Nat) (s r : Sg) (w : World) (hk : k < 6) (hs : s.length ≤ 2097152) (h0 : k = 5 ∨ 1 ≤ s.length) : Ret Try.prog (108 + k) [.agg ⟨[vstr s, vstr r]⟩] w (fun v w' => v = .tuple ⟨[vstr (ofK (k : Int) s).1, vstr (ofK (k : Int) s).2]⟩ ∧ Ext w w') := by
  rcases (show k = 0 ∨ k = 1 ∨ k = 2 ∨ k = 3 ∨ k = 4 ∨ k = 5 by omega) with rfl | rfl | rfl | rfl | rfl | rfl
  · exact k0_ret s r w hs (by omega)
  · exact k1_ret s r w hs (by omega)
  · exact k2_ret s r w hs (by omega)
  · exact k3_ret s r w hs (by omega)
  · exact k4_ret s r w hs (by omega)
  · exact k5_ret s r w hs
theorem next1_ret (l b : Nat) (s r : Sg) (J : Nat → World → Prop) (E : World → Prop) (w : World) (hs : s.length ≤ 2097152) (hr : r.length ≤ 2097152) (hr33 : ∀ x ∈ r, x ≠ 33) (hbN : b < w.heap.size) (h0 : J 0 w) (hJb : ∀ k w, J k w → Blk w b [vstr s, vstr r]) (hJs : ∀ k w1 w2, J k w1 → Below w.heap.size w1 w2 → J k w2) (hskip : ∀ (k : Nat) w, k < 6 → J k w → (stepR (k : Int) s r).2.2 = false → J (k + 1) w) (hy : ∀ (k : Nat) w1, k < 6 → J k w1 → w.heap.size ≤ w1.heap.size → stepR (k : Int) s r = (s.drop (ofK (k : Int) s).1.length, r.drop (ofK (k : Int) s).2.length, true) →
      YieldAt Try.prog l [.agg ⟨[vint (k : Int), vint (cost (k : Int)), .func (.func (108 + k)) ⟨[]⟩ ⟨[]⟩]⟩, .agg ⟨[vstr (s.drop (ofK (k : Int) s).1.length), vstr (r.drop (ofK (k : Int) s).2.length)]⟩] w1
        (fun v w2 => ∃ y : Bool, v = .bool y ∧ (y = true → J (k + 1) w2) ∧ (y = false → E w2) ∧ Fr w.heap.size w1 w2 ∧ Blk w2 b [vstr s, vstr r])) : Ret Try.prog 86 [.func (.yield l) ⟨[]⟩ ⟨[]⟩, ptr b 0] w (fun v w' => J 6 w' ∨ E w') := by
  have hb := hJb _ _ h0
  have hJ := h0
  have hsz : w.heap.size ≤ w.heap.size := Nat.le_refl _
  refine ret_of_runs (args := [_, _]) Try.func86 rfl (Nat.le_of_ble_eq_true rfl) (by kernel_rfl) ?_
  refine r_seq ?_
  refine r_region' ?_
  refine l_o (o_call Try.call87 rfl (kinds_ret _) rfl ?_)
  rintro _ w1 ⟨bk, rfl, hbk, hk7, hE1⟩
  replace hb := hb.ext hE1
  replace hJ := hJs _ _ _ hJ (below_ext_of hE1 hsz)
  replace hsz := Nat.le_trans hsz hE1.size
  have hbs_bk := hbk
  have hne_b_bk : b ≠ bk := by omega
  refine l_q (q_len rfl Try.underlying123 rfl rfl) ?_
  refine l_q (q_move (v := .int _ _) rfl rfl) ?_
  refine l_nil ?_
  refine r_block ?_
  refine r_rounds (α := Nat) (fun k e wl => Knows e [(0, .func (.yield l) ⟨[]⟩ ⟨[]⟩), (1, ptr b 0), (7, .slice (some ⟨bk, 0, none⟩) 6 6), (8, vint 6), (9, vint (k : Int))] ∧ (k ≤ 6) ∧ (J k wl) ∧ (Blk wl b [vstr s, vstr r]) ∧ (Blk wl bk kindCells) ∧ (w.heap.size ≤ wl.heap.size)) (fun k => 6 - k) 0 ?_ ?_
  · skip
    exact ⟨⟨rfl, rfl, rfl, rfl, rfl, trivial⟩, (Nat.zero_le _), hJ, hb, hk7, hsz⟩
  · skip
    rintro k el2 wl2 ⟨hkn, hkk, hJ, hb, hk7, hsz⟩ ih2
    obtain ⟨e2, rfl⟩ := knows_env hkn
    refine r_seq ?_
    refine r_region' ?_
    refine l_q (q_lss rfl rfl rfl) ?_
    refine l_nil ?_
    refine r_seq ?_
    refine r_cond rfl (fun hc3 => ?_) (fun hc3 => ?_)
    · skip
      try simp only [decide_eq_true_eq, decide_eq_false_iff_not, Bool.not_eq_true', Bool.not_eq_false', Bool.not_not, Bool.not_true, Bool.not_false, Bool.not_eq_true, Bool.not_eq_false, Int.not_lt, Int.not_le, Bool.and_eq_true, Bool.or_eq_true, Bool.and_eq_false_iff, Bool.or_eq_false_iff] at hc3
      refine r_skip ?_
      refine r_seq ?_
      refine r_block ?_
      refine r_seq ?_
      refine r_region' ?_
      refine l_q (q_indexAddr Try.underlying123 Try.sizeOf99 rfl rfl rfl (by omega) rfl) ?_
      refine l_q (q_load_agg (cs := [vint (k : Int), vint (cost (k : Int)), .func (.func (108 + k)) ⟨[]⟩ ⟨[]⟩]) (n := 3) Try.isAgg99 Try.sizeOf99 rfl ((kinds_at hk7 (show k < 6 by omega))) rfl rfl) ?_
      refine l_o (o_alloc Try.zeroValue99 rfl rfl ?_)
      intro b4 w4 hzl4 hzr4 _ hb4 hE4
      have hne_b_b4 : b ≠ b4 := by have := hb.lt; omega
      have hne_bk_b4 : bk ≠ b4 := by have := hk7.lt; omega
      have hbs_b4 : w.heap.size ≤ b4 := Nat.le_trans hsz hzl4
      replace hb := hb.ext hE4
      replace hJ := hJs _ _ _ hJ (below_ext_of hE4 hsz)
      replace hk7 := hk7.ext hE4
      replace hsz := Nat.le_trans hsz hE4.size
      refine l_o (o_store (vs := [vint (k : Int), vint (cost (k : Int)), .func (.func (108 + k)) ⟨[]⟩ ⟨[]⟩]) (cs' := [vint (k : Int), vint (cost (k : Int)), .func (.func (108 + k)) ⟨[]⟩ ⟨[]⟩]) Try.sizeOf99 rfl rfl rfl rfl hb4 (Nat.le_of_ble_eq_true rfl) rfl rfl ?_)
      intro w5 hz5 hb4 hG5
      replace hsz : w.heap.size ≤ w5.heap.size := by rw [hz5]; exact hsz
      replace hb := hb.upd hG5 (by omega)
      replace hJ := hJs _ _ _ hJ (below_upd_of hG5 hbs_b4 (by omega))
      replace hk7 := hk7.upd hG5 (by omega)
      refine l_nil ?_
      refine r_forget [(0, .func (.yield l) ⟨[]⟩ ⟨[]⟩), (1, .pointer _), (4, .pointer _), (7, .slice _ _ _), (8, .int _ _), (9, .int _ _)] ⟨rfl, rfl, rfl, rfl, rfl, rfl, trivial⟩ (fun e6 => ?_)
      refine r_seq ?_
      refine r_seq ?_
      refine r_region' ?_
      refine l_q (q_fieldAddr (o' := 0) rfl fld93_0 rfl) ?_
      refine l_q (q_load Try.isAgg9 rfl ((hb.has (o := 0) rfl)) rfl) ?_
      refine l_q (q_eql_str rfl rfl rfl) ?_
      refine l_q (q_move (v := .bool _) rfl rfl) ?_
      refine l_part 16 rfl (fun hc7 => ?_) (fun hc7 => ?_)
      · skip
        try simp only [decide_eq_true_eq, decide_eq_false_iff_not, Bool.not_eq_true', Bool.not_eq_false', Bool.not_not, Bool.not_true, Bool.not_false, Bool.not_eq_true, Bool.not_eq_false, Int.not_lt, Int.not_le, Bool.and_eq_true, Bool.or_eq_true, Bool.and_eq_false_iff, Bool.or_eq_false_iff] at hc7
        have hs0 := hc7
        refine l_q (q_fieldAddr (o' := 0) rfl fld99_0 rfl) ?_
        refine l_q (q_load Try.isAgg3 rfl ((hb4.has (o := 0) rfl)) rfl) ?_
        refine l_q (q_neq rfl rfl rfl) ?_
        refine l_q (q_pick_t (v := .bool _) rfl rfl rfl) ?_
        refine l_nil ?_
        refine r_forget [(0, .func (.yield l) ⟨[]⟩ ⟨[]⟩), (1, .pointer _), (4, .pointer _), (7, .slice _ _ _), (8, .int _ _), (9, .int _ _), (20, .bool _)] ⟨rfl, rfl, rfl, rfl, rfl, rfl, rfl, trivial⟩ (fun e8 => ?_)
        refine r_cond rfl (fun hc9 => ?_) (fun hc9 => ?_)
        · skip
          try simp only [decide_eq_true_eq, decide_eq_false_iff_not, Bool.not_eq_true', Bool.not_eq_false', Bool.not_not, Bool.not_true, Bool.not_false, Bool.not_eq_true, Bool.not_eq_false, Int.not_lt, Int.not_le, Bool.and_eq_true, Bool.or_eq_true, Bool.and_eq_false_iff, Bool.or_eq_false_iff] at hc9
          have hJn := hskip k _ (by omega) hJ (step_empty hs0 (by omega))
          refine r_exit rfl ?_
          refine r_region' ?_
          refine l_q (q_add rfl rfl (by omega) rfl) ?_
          refine l_q (q_move (v := .int _ _) rfl rfl) ?_
          refine l_nil ?_
          refine r_forget [(0, .func (.yield l) ⟨[]⟩ ⟨[]⟩), (1, .pointer _), (7, .slice _ _ _), (8, .int _ _), (9, .int _ _)] ⟨rfl, rfl, rfl, rfl, rfl, trivial⟩ (fun e10 => ?_)
          exact ih2 (k + 1) _ _ ⟨⟨rfl, rfl, rfl, rfl, by first | rfl | exact vint_eq (by omega), trivial⟩, (by omega), hJn, hb, hk7, hsz⟩ (by first | omega | (dsimp only; omega))
        · skip
          try simp only [decide_eq_true_eq, decide_eq_false_iff_not, Bool.not_eq_true', Bool.not_eq_false', Bool.not_not, Bool.not_true, Bool.not_false, Bool.not_eq_true, Bool.not_eq_false, Int.not_lt, Int.not_le, Bool.and_eq_true, Bool.or_eq_true, Bool.and_eq_false_iff, Bool.or_eq_false_iff] at hc9
          have h5 : k = 5 ∨ 1 ≤ s.length := by first | assumption | omega
          refine r_skip ?_
          refine r_seq ?_
          refine r_region' ?_
          refine l_q (q_fieldAddr (o' := 2) rfl fld99_2 rfl) ?_
          refine l_q (q_load Try.isAgg97 rfl ((hb4.has (o := 2) rfl)) rfl) ?_
          refine l_q (q_load_agg (n := 2) Try.isAgg93 Try.sizeOf93 rfl ((hb.cells' (cs' := [_, _]) 0 2 rfl)) rfl rfl) ?_
          refine l_o (o_callv (f := 108 + k) (fst := []) (cap := []) rfl (kind_in (by omega)) rfl (kind_ret k s r _ (by omega) hs h5) rfl ?_)
          rintro _ w11 ⟨rfl, hE11⟩
          replace hb := hb.ext hE11
          replace hJ := hJs _ _ _ hJ (below_ext_of hE11 hsz)
          replace hk7 := hk7.ext hE11
          replace hb4 := hb4.ext hE11
          replace hsz := Nat.le_trans hsz hE11.size
          refine l_q (q_move (v := .tuple _) rfl rfl) ?_
          refine l_q (q_extract (vs := [_, _]) (v := .string _) rfl rfl rfl) ?_
          refine l_q (q_extract (vs := [_, _]) (v := .string _) rfl rfl rfl) ?_
          refine l_q (q_assign (v := .string _) rfl rfl) ?_
          refine l_q (q_assign (v := .string _) rfl rfl) ?_
          refine l_nil ?_
          refine r_forget [(0, .func (.yield l) ⟨[]⟩ ⟨[]⟩), (1, .pointer _), (4, .pointer _), (5, .string _), (6, .string _), (7, .slice _ _ _), (8, .int _ _), (9, .int _ _)] ⟨rfl, rfl, rfl, rfl, rfl, rfl, rfl, rfl, trivial⟩ (fun e12 => ?_)
          refine r_seq ?_
          refine r_draw (FrB.refl' w.heap.size b [vstr s, vstr r]) (FrB.trans' w.heap.size b [vstr s, vstr r]) [0, 1, 2, 3, 4, 5, 6, 7, 8, 9, 10, 11, 12, 13, 14, 15, 16, 17, 18, 19, 20] [3, 18] 2 (by kernel_rfl) (by kernel_rfl) ?_
          intro w13 _ hE13
          replace hb := hb.ext hE13
          replace hJ := hJs _ _ _ hJ (below_ext_of hE13 hsz)
          replace hk7 := hk7.ext hE13
          replace hb4 := hb4.ext hE13
          replace hsz := Nat.le_trans hsz hE13.size
          refine m_q rfl rfl (fun w' hC' => q_fieldAddr (o' := 1) rfl fld93_1 rfl) ?_
          refine m_q rfl rfl (fun w' hC' => q_load Try.isAgg9 rfl (((hC'.2 hb).has (o := 1) rfl)) rfl) ?_
          refine m_q rfl rfl (fun w' hC' => q_move (v := .string _) rfl rfl) ?_
          refine m_o rfl rfl (o_call Try.call88 rfl (hasPrefix_ret _ _ _) rfl ?_)
          rintro _ w14 ⟨rfl, rfl⟩
          refine ⟨⟨Fr.refl _ _, fun h => h⟩, ?_⟩
          refine m_q rfl rfl (fun w' hC' => q_move (v := .bool _) rfl rfl) ?_
          refine m_part 32 rfl (fun hc15 => ?_) (fun hc15 => ?_)
          · skip
            try simp only [decide_eq_true_eq, decide_eq_false_iff_not, Bool.not_eq_true', Bool.not_eq_false', Bool.not_not, Bool.not_true, Bool.not_false, Bool.not_eq_true, Bool.not_eq_false, Int.not_lt, Int.not_le, Bool.and_eq_true, Bool.or_eq_true, Bool.and_eq_false_iff, Bool.or_eq_false_iff] at hc15
            have hpf : hasPfx r (ofK (k : Int) s).2 = true := hc15
            have hol := ofK_len (k := k) (by omega) h5
            have hpl := pfx_len hpf
            refine m_q rfl rfl (fun w' hC' => q_move (v := .func (.yield l) ⟨[]⟩ ⟨[]⟩) rfl rfl) ?_
            refine m_q rfl rfl (fun w' hC' => q_load_agg (n := 3) Try.isAgg99 Try.sizeOf99 rfl (((hb4.fr hC'.1 hbs_b4).cells' (cs' := [_, _, _]) 0 3 rfl)) rfl rfl) ?_
            refine m_q rfl rfl (fun w' hC' => q_fieldAddr (o' := 0) rfl fld93_0 rfl) ?_
            refine m_q rfl rfl (fun w' hC' => q_load Try.isAgg9 rfl (((hC'.2 hb).has (o := 0) rfl)) rfl) ?_
            refine m_q rfl rfl (fun w' hC' => q_move (v := .string _) rfl rfl) ?_
            refine m_q rfl rfl (fun w' hC' => q_len_str rfl Try.underlying9 rfl rfl) ?_
            refine m_q rfl rfl (fun w' hC' => q_slice_str_lo Try.underlying9 rfl rfl (by omega) rfl) ?_
            refine m_q rfl rfl (fun w' hC' => q_fieldAddr (o' := 1) rfl fld93_1 rfl) ?_
            refine m_q rfl rfl (fun w' hC' => q_load Try.isAgg9 rfl (((hC'.2 hb).has (o := 1) rfl)) rfl) ?_
            refine m_q rfl rfl (fun w' hC' => q_move (v := .string _) rfl rfl) ?_
            refine m_q rfl rfl (fun w' hC' => q_len_str rfl Try.underlying9 rfl rfl) ?_
            refine m_q rfl rfl (fun w' hC' => q_slice_str_lo Try.underlying9 rfl rfl (by omega) rfl) ?_
            refine m_q rfl rfl (fun w' hC' => q_build (v := .agg ⟨[vstr ((s).drop (((ofK (k : Int) s).1).length : Int).toNat), vstr ((r).drop (((ofK (k : Int) s).2).length : Int).toNat)]⟩) (fun w => by kernel_rfl) rfl) ?_
            refine m_o rfl rfl (o_yield rfl rfl (hy k _ (by omega) hJ (by omega) (ofK_step (by omega) h5 hr33 hpf)) rfl ?_)
            rintro _ w16 ⟨y46, rfl, hJy, hEy, hFr, hbb⟩
            refine ⟨⟨hFr, fun _ => hbb⟩, ?_⟩
            replace hb := hbb
            replace hk7 := hk7.fr hFr hbs_bk
            replace hb4 := hb4.fr hFr hbs_b4
            replace hsz := Nat.le_trans hsz hFr.size
            refine m_q rfl rfl (fun w' hC' => q_not rfl rfl) ?_
            refine m_q rfl rfl (fun w' hC' => q_pick_t (v := .bool _) rfl rfl rfl) ?_
            refine m_nil ?_
            refine r_forget [(0, .func (.yield l) ⟨[]⟩ ⟨[]⟩), (1, .pointer _), (7, .slice _ _ _), (8, .int _ _), (9, .int _ _), (48, .bool _)] ⟨rfl, rfl, rfl, rfl, rfl, rfl, trivial⟩ (fun e17 => ?_)
            refine r_cond rfl (fun hc18 => ?_) (fun hc18 => ?_)
            · skip
              try simp only [decide_eq_true_eq, decide_eq_false_iff_not, Bool.not_eq_true', Bool.not_eq_false', Bool.not_not, Bool.not_true, Bool.not_false, Bool.not_eq_true, Bool.not_eq_false, Int.not_lt, Int.not_le, Bool.and_eq_true, Bool.or_eq_true, Bool.and_eq_false_iff, Bool.or_eq_false_iff] at hc18
              have hE2 := hEy hc18
              refine r_ret_ (vs := []) rfl Try.func86 rfl (.nil _) trivial ?_
              exact .inr hE2
            · skip
              try simp only [decide_eq_true_eq, decide_eq_false_iff_not, Bool.not_eq_true', Bool.not_eq_false', Bool.not_not, Bool.not_true, Bool.not_false, Bool.not_eq_true, Bool.not_eq_false, Int.not_lt, Int.not_le, Bool.and_eq_true, Bool.or_eq_true, Bool.and_eq_false_iff, Bool.or_eq_false_iff] at hc18
              have hJn := hJy hc18
              refine r_skip ?_
              refine r_inBlock ?_
              refine r_region' ?_
              refine l_q (q_add rfl rfl (by omega) rfl) ?_
              refine l_q (q_move (v := .int _ _) rfl rfl) ?_
              refine l_nil ?_
              refine r_forget [(0, .func (.yield l) ⟨[]⟩ ⟨[]⟩), (1, .pointer _), (7, .slice _ _ _), (8, .int _ _), (9, .int _ _)] ⟨rfl, rfl, rfl, rfl, rfl, trivial⟩ (fun e19 => ?_)
              exact ih2 (k + 1) _ _ ⟨⟨rfl, rfl, rfl, rfl, by first | rfl | exact vint_eq (by omega), trivial⟩, (by omega), hJn, hb, hk7, hsz⟩ (by first | omega | (dsimp only; omega))
          · skip
            try simp only [decide_eq_true_eq, decide_eq_false_iff_not, Bool.not_eq_true', Bool.not_eq_false', Bool.not_not, Bool.not_true, Bool.not_false, Bool.not_eq_true, Bool.not_eq_false, Int.not_lt, Int.not_le, Bool.and_eq_true, Bool.or_eq_true, Bool.and_eq_false_iff, Bool.or_eq_false_iff] at hc15
            have hJn := hskip k _ (by omega) hJ (ofK_no (by omega) h5 hr33 hc15)
            refine m_q rfl rfl (fun w' hC' => q_skip rfl) ?_
            refine m_q rfl rfl (fun w' hC' => q_skip rfl) ?_
            refine m_q rfl rfl (fun w' hC' => q_skip rfl) ?_
            refine m_q rfl rfl (fun w' hC' => q_skip rfl) ?_
            refine m_q rfl rfl (fun w' hC' => q_skip rfl) ?_
            refine m_q rfl rfl (fun w' hC' => q_skip rfl) ?_
            refine m_q rfl rfl (fun w' hC' => q_skip rfl) ?_
            refine m_q rfl rfl (fun w' hC' => q_skip rfl) ?_
            refine m_q rfl rfl (fun w' hC' => q_skip rfl) ?_
            refine m_q rfl rfl (fun w' hC' => q_skip rfl) ?_
            refine m_q rfl rfl (fun w' hC' => q_skip rfl) ?_
            refine m_q rfl rfl (fun w' hC' => q_skip rfl) ?_
            refine m_q rfl rfl (fun w' hC' => q_skip rfl) ?_
            refine m_o rfl rfl ((q_skip rfl).eff ⟨⟨Fr.refl _ _, fun h => h⟩, ?_⟩)
            refine m_q rfl rfl (fun w' hC' => q_skip rfl) ?_
            refine m_q rfl rfl (fun w' hC' => q_pick_f (v := .bool _) rfl rfl rfl) ?_
            refine m_nil ?_
            refine r_forget [(0, .func (.yield l) ⟨[]⟩ ⟨[]⟩), (1, .pointer _), (7, .slice _ _ _), (8, .int _ _), (9, .int _ _), (48, .bool _)] ⟨rfl, rfl, rfl, rfl, rfl, rfl, trivial⟩ (fun e20 => ?_)
            refine r_cond_f rfl ?_
            refine r_skip ?_
            refine r_inBlock ?_
            refine r_region' ?_
            refine l_q (q_add rfl rfl (by omega) rfl) ?_
            refine l_q (q_move (v := .int _ _) rfl rfl) ?_
            refine l_nil ?_
            refine r_forget [(0, .func (.yield l) ⟨[]⟩ ⟨[]⟩), (1, .pointer _), (7, .slice _ _ _), (8, .int _ _), (9, .int _ _)] ⟨rfl, rfl, rfl, rfl, rfl, trivial⟩ (fun e21 => ?_)
            exact ih2 (k + 1) _ _ ⟨⟨rfl, rfl, rfl, rfl, by first | rfl | exact vint_eq (by omega), trivial⟩, (by omega), hJn, hb, hk7, hsz⟩ (by first | omega | (dsimp only; omega))
      · skip
        try simp only [decide_eq_true_eq, decide_eq_false_iff_not, Bool.not_eq_true', Bool.not_eq_false', Bool.not_not, Bool.not_true, Bool.not_false, Bool.not_eq_true, Bool.not_eq_false, Int.not_lt, Int.not_le, Bool.and_eq_true, Bool.or_eq_true, Bool.and_eq_false_iff, Bool.or_eq_false_iff] at hc7
        have h5 : k = 5 ∨ 1 ≤ s.length := .inr (List.length_pos_iff.2 hc7)
        refine l_q (q_skip rfl) ?_
        refine l_q (q_skip rfl) ?_
        refine l_q (q_skip rfl) ?_
        refine l_q (q_pick_f (v := .bool _) rfl rfl rfl) ?_
        refine l_nil ?_
        refine r_forget [(0, .func (.yield l) ⟨[]⟩ ⟨[]⟩), (1, .pointer _), (4, .pointer _), (7, .slice _ _ _), (8, .int _ _), (9, .int _ _), (20, .bool _)] ⟨rfl, rfl, rfl, rfl, rfl, rfl, rfl, trivial⟩ (fun e22 => ?_)
        refine r_cond_f rfl ?_
        refine r_skip ?_
        refine r_seq ?_
        refine r_region' ?_
        refine l_q (q_fieldAddr (o' := 2) rfl fld99_2 rfl) ?_
        refine l_q (q_load Try.isAgg97 rfl ((hb4.has (o := 2) rfl)) rfl) ?_
        refine l_q (q_load_agg (n := 2) Try.isAgg93 Try.sizeOf93 rfl ((hb.cells' (cs' := [_, _]) 0 2 rfl)) rfl rfl) ?_
        refine l_o (o_callv (f := 108 + k) (fst := []) (cap := []) rfl (kind_in (by omega)) rfl (kind_ret k s r _ (by omega) hs h5) rfl ?_)
        rintro _ w23 ⟨rfl, hE23⟩
        replace hb := hb.ext hE23
        replace hJ := hJs _ _ _ hJ (below_ext_of hE23 hsz)
        replace hk7 := hk7.ext hE23
        replace hb4 := hb4.ext hE23
        replace hsz := Nat.le_trans hsz hE23.size
        refine l_q (q_move (v := .tuple _) rfl rfl) ?_
        refine l_q (q_extract (vs := [_, _]) (v := .string _) rfl rfl rfl) ?_
        refine l_q (q_extract (vs := [_, _]) (v := .string _) rfl rfl rfl) ?_
        refine l_q (q_assign (v := .string _) rfl rfl) ?_
        refine l_q (q_assign (v := .string _) rfl rfl) ?_
        refine l_nil ?_
        refine r_forget [(0, .func (.yield l) ⟨[]⟩ ⟨[]⟩), (1, .pointer _), (4, .pointer _), (5, .string _), (6, .string _), (7, .slice _ _ _), (8, .int _ _), (9, .int _ _)] ⟨rfl, rfl, rfl, rfl, rfl, rfl, rfl, rfl, trivial⟩ (fun e24 => ?_)
        refine r_seq ?_
        refine r_draw (FrB.refl' w.heap.size b [vstr s, vstr r]) (FrB.trans' w.heap.size b [vstr s, vstr r]) [0, 1, 2, 3, 4, 5, 6, 7, 8, 9, 10, 11, 12, 13, 14, 15, 16, 17, 18, 19, 20] [3, 18] 2 (by kernel_rfl) (by kernel_rfl) ?_
        intro w25 _ hE25
        replace hb := hb.ext hE25
        replace hJ := hJs _ _ _ hJ (below_ext_of hE25 hsz)
        replace hk7 := hk7.ext hE25
        replace hb4 := hb4.ext hE25
        replace hsz := Nat.le_trans hsz hE25.size
        refine m_q rfl rfl (fun w' hC' => q_fieldAddr (o' := 1) rfl fld93_1 rfl) ?_
        refine m_q rfl rfl (fun w' hC' => q_load Try.isAgg9 rfl (((hC'.2 hb).has (o := 1) rfl)) rfl) ?_
        refine m_q rfl rfl (fun w' hC' => q_move (v := .string _) rfl rfl) ?_
        refine m_o rfl rfl (o_call Try.call88 rfl (hasPrefix_ret _ _ _) rfl ?_)
        rintro _ w26 ⟨rfl, rfl⟩
        refine ⟨⟨Fr.refl _ _, fun h => h⟩, ?_⟩
        refine m_q rfl rfl (fun w' hC' => q_move (v := .bool _) rfl rfl) ?_
        refine m_part 32 rfl (fun hc27 => ?_) (fun hc27 => ?_)
        · skip
          try simp only [decide_eq_true_eq, decide_eq_false_iff_not, Bool.not_eq_true', Bool.not_eq_false', Bool.not_not, Bool.not_true, Bool.not_false, Bool.not_eq_true, Bool.not_eq_false, Int.not_lt, Int.not_le, Bool.and_eq_true, Bool.or_eq_true, Bool.and_eq_false_iff, Bool.or_eq_false_iff] at hc27
          have hpf : hasPfx r (ofK (k : Int) s).2 = true := hc27
          have hol := ofK_len (k := k) (by omega) h5
          have hpl := pfx_len hpf
          refine m_q rfl rfl (fun w' hC' => q_move (v := .func (.yield l) ⟨[]⟩ ⟨[]⟩) rfl rfl) ?_
          refine m_q rfl rfl (fun w' hC' => q_load_agg (n := 3) Try.isAgg99 Try.sizeOf99 rfl (((hb4.fr hC'.1 hbs_b4).cells' (cs' := [_, _, _]) 0 3 rfl)) rfl rfl) ?_
          refine m_q rfl rfl (fun w' hC' => q_fieldAddr (o' := 0) rfl fld93_0 rfl) ?_
          refine m_q rfl rfl (fun w' hC' => q_load Try.isAgg9 rfl (((hC'.2 hb).has (o := 0) rfl)) rfl) ?_
          refine m_q rfl rfl (fun w' hC' => q_move (v := .string _) rfl rfl) ?_
          refine m_q rfl rfl (fun w' hC' => q_len_str rfl Try.underlying9 rfl rfl) ?_
          refine m_q rfl rfl (fun w' hC' => q_slice_str_lo Try.underlying9 rfl rfl (by omega) rfl) ?_
          refine m_q rfl rfl (fun w' hC' => q_fieldAddr (o' := 1) rfl fld93_1 rfl) ?_
          refine m_q rfl rfl (fun w' hC' => q_load Try.isAgg9 rfl (((hC'.2 hb).has (o := 1) rfl)) rfl) ?_
          refine m_q rfl rfl (fun w' hC' => q_move (v := .string _) rfl rfl) ?_
          refine m_q rfl rfl (fun w' hC' => q_len_str rfl Try.underlying9 rfl rfl) ?_
          refine m_q rfl rfl (fun w' hC' => q_slice_str_lo Try.underlying9 rfl rfl (by omega) rfl) ?_
          refine m_q rfl rfl (fun w' hC' => q_build (v := .agg ⟨[vstr ((s).drop (((ofK (k : Int) s).1).length : Int).toNat), vstr ((r).drop (((ofK (k : Int) s).2).length : Int).toNat)]⟩) (fun w => by kernel_rfl) rfl) ?_
          refine m_o rfl rfl (o_yield rfl rfl (hy k _ (by omega) hJ (by omega) (ofK_step (by omega) h5 hr33 hpf)) rfl ?_)
          rintro _ w28 ⟨y46, rfl, hJy, hEy, hFr, hbb⟩
          refine ⟨⟨hFr, fun _ => hbb⟩, ?_⟩
          replace hb := hbb
          replace hk7 := hk7.fr hFr hbs_bk
          replace hb4 := hb4.fr hFr hbs_b4
          replace hsz := Nat.le_trans hsz hFr.size
          refine m_q rfl rfl (fun w' hC' => q_not rfl rfl) ?_
          refine m_q rfl rfl (fun w' hC' => q_pick_t (v := .bool _) rfl rfl rfl) ?_
          refine m_nil ?_
          refine r_forget [(0, .func (.yield l) ⟨[]⟩ ⟨[]⟩), (1, .pointer _), (7, .slice _ _ _), (8, .int _ _), (9, .int _ _), (48, .bool _)] ⟨rfl, rfl, rfl, rfl, rfl, rfl, trivial⟩ (fun e29 => ?_)
          refine r_cond rfl (fun hc30 => ?_) (fun hc30 => ?_)
          · skip
            try simp only [decide_eq_true_eq, decide_eq_false_iff_not, Bool.not_eq_true', Bool.not_eq_false', Bool.not_not, Bool.not_true, Bool.not_false, Bool.not_eq_true, Bool.not_eq_false, Int.not_lt, Int.not_le, Bool.and_eq_true, Bool.or_eq_true, Bool.and_eq_false_iff, Bool.or_eq_false_iff] at hc30
            have hE2 := hEy hc30
            refine r_ret_ (vs := []) rfl Try.func86 rfl (.nil _) trivial ?_
            exact .inr hE2
          · skip
            try simp only [decide_eq_true_eq, decide_eq_false_iff_not, Bool.not_eq_true', Bool.not_eq_false', Bool.not_not, Bool.not_true, Bool.not_false, Bool.not_eq_true, Bool.not_eq_false, Int.not_lt, Int.not_le, Bool.and_eq_true, Bool.or_eq_true, Bool.and_eq_false_iff, Bool.or_eq_false_iff] at hc30
            have hJn := hJy hc30
            refine r_skip ?_
            refine r_inBlock ?_
            refine r_region' ?_
            refine l_q (q_add rfl rfl (by omega) rfl) ?_
            refine l_q (q_move (v := .int _ _) rfl rfl) ?_
            refine l_nil ?_
            refine r_forget [(0, .func (.yield l) ⟨[]⟩ ⟨[]⟩), (1, .pointer _), (7, .slice _ _ _), (8, .int _ _), (9, .int _ _)] ⟨rfl, rfl, rfl, rfl, rfl, trivial⟩ (fun e31 => ?_)
            exact ih2 (k + 1) _ _ ⟨⟨rfl, rfl, rfl, rfl, by first | rfl | exact vint_eq (by omega), trivial⟩, (by omega), hJn, hb, hk7, hsz⟩ (by first | omega | (dsimp only; omega))
        · skip
          try simp only [decide_eq_true_eq, decide_eq_false_iff_not, Bool.not_eq_true', Bool.not_eq_false', Bool.not_not, Bool.not_true, Bool.not_false, Bool.not_eq_true, Bool.not_eq_false, Int.not_lt, Int.not_le, Bool.and_eq_true, Bool.or_eq_true, Bool.and_eq_false_iff, Bool.or_eq_false_iff] at hc27
          have hJn := hskip k _ (by omega) hJ (ofK_no (by omega) h5 hr33 hc27)
          refine m_q rfl rfl (fun w' hC' => q_skip rfl) ?_
          refine m_q rfl rfl (fun w' hC' => q_skip rfl) ?_
          refine m_q rfl rfl (fun w' hC' => q_skip rfl) ?_
          refine m_q rfl rfl (fun w' hC' => q_skip rfl) ?_
          refine m_q rfl rfl (fun w' hC' => q_skip rfl) ?_
          refine m_q rfl rfl (fun w' hC' => q_skip rfl) ?_
          refine m_q rfl rfl (fun w' hC' => q_skip rfl) ?_
          refine m_q rfl rfl (fun w' hC' => q_skip rfl) ?_
          refine m_q rfl rfl (fun w' hC' => q_skip rfl) ?_
          refine m_q rfl rfl (fun w' hC' => q_skip rfl) ?_
          refine m_q rfl rfl (fun w' hC' => q_skip rfl) ?_
          refine m_q rfl rfl (fun w' hC' => q_skip rfl) ?_
          refine m_q rfl rfl (fun w' hC' => q_skip rfl) ?_
          refine m_o rfl rfl ((q_skip rfl).eff ⟨⟨Fr.refl _ _, fun h => h⟩, ?_⟩)
          refine m_q rfl rfl (fun w' hC' => q_skip rfl) ?_
          refine m_q rfl rfl (fun w' hC' => q_pick_f (v := .bool _) rfl rfl rfl) ?_
          refine m_nil ?_
          refine r_forget [(0, .func (.yield l) ⟨[]⟩ ⟨[]⟩), (1, .pointer _), (7, .slice _ _ _), (8, .int _ _), (9, .int _ _), (48, .bool _)] ⟨rfl, rfl, rfl, rfl, rfl, rfl, trivial⟩ (fun e32 => ?_)
          refine r_cond_f rfl ?_
          refine r_skip ?_
          refine r_inBlock ?_
          refine r_region' ?_
          refine l_q (q_add rfl rfl (by omega) rfl) ?_
          refine l_q (q_move (v := .int _ _) rfl rfl) ?_
          refine l_nil ?_
          refine r_forget [(0, .func (.yield l) ⟨[]⟩ ⟨[]⟩), (1, .pointer _), (7, .slice _ _ _), (8, .int _ _), (9, .int _ _)] ⟨rfl, rfl, rfl, rfl, rfl, trivial⟩ (fun e33 => ?_)
          exact ih2 (k + 1) _ _ ⟨⟨rfl, rfl, rfl, rfl, by first | rfl | exact vint_eq (by omega), trivial⟩, (by omega), hJn, hb, hk7, hsz⟩ (by first | omega | (dsimp only; omega))
    · skip
      try simp only [decide_eq_true_eq, decide_eq_false_iff_not, Bool.not_eq_true', Bool.not_eq_false', Bool.not_not, Bool.not_true, Bool.not_false, Bool.not_eq_true, Bool.not_eq_false, Int.not_lt, Int.not_le, Bool.and_eq_true, Bool.or_eq_true, Bool.and_eq_false_iff, Bool.or_eq_false_iff] at hc3
      refine r_exit rfl ?_
      refine r_end_ (vs := []) rfl Try.func86 rfl (.nil _) trivial ?_
      have hk6 : k = 6 := by omega
      subst hk6
      exact .inl hJ
theorem next_ret (s r : Sg) (w : World) : Ret Try.prog 60 [.agg ⟨[vstr s, vstr r]⟩] w (fun v w' => ∃ b, v = .func (.func 86) ⟨[]⟩ ⟨[ptr b 0]⟩ ∧ w.heap.size ≤ b ∧ Blk w' b [vstr s, vstr r] ∧ Ext w w') := by
  have hB := Below.refl w.heap.size w
  have hsz : w.heap.size ≤ w.heap.size := Nat.le_refl _
  refine ret_of_runs (args := [_]) Try.func60 rfl (Nat.le_of_ble_eq_true rfl) (by kernel_rfl) ?_
  refine r_seq ?_
  refine r_region' ?_
  refine l_o (o_box rfl rfl rfl ?_)
  intro b1 w1 hzl1 hzr1 _ hb1 hE1
  have hbs_b1 : w.heap.size ≤ b1 := Nat.le_trans hsz hzl1
  replace hB := below_ext hB hE1 hsz
  replace hsz := Nat.le_trans hsz hE1.size
  refine l_q (q_assign (v := .nilFunc) rfl rfl) ?_
  refine l_nil ?_
  refine r_forget [(1, .pointer _)] ⟨rfl, trivial⟩ (fun e2 => ?_)
  refine r_seq ?_
  refine r_region' ?_
  refine l_q (q_makeFunc (v := .func _ ⟨[]⟩ ⟨[_]⟩) rfl rfl) ?_
  refine l_q (q_assign (v := .func _ _ _) rfl rfl) ?_
  refine l_nil ?_
  refine r_forget [(2, .func _ _ _)] ⟨rfl, trivial⟩ (fun e3 => ?_)
  refine r_ret_ (vs := [.func _ _ _]) rfl Try.func60 rfl (.nil _) ⟨rfl, trivial⟩ ?_
  exact ⟨_, rfl, hbs_b1, hb1, Ext.of_below hB⟩
end Go.Proofs.Ytkcbgpilfegofaa
