/- Contracts. -/
import Derived.Test.YtfbjllabgkabkaaF5
import Derived.Test.YtfbjllabgkabkaaGvB
set_option linter.unusedVariables false
set_option linter.unusedSimpArgs false
namespace Go.Proofs.Ytfbjllabgkabkaa
open Go Go.RowKit Go.Gv Go.Fl

def invI (S n : Int) : Int := match (List.range S.toNat).find? (fun (m : Nat) => decide (((m : Int) * n) % S = 1)) with | some m => (m : Int) | none => 0
theorem inv_yes {S n : Int} {m : Nat} (hm : (m : Int) < S) (h : ((m : Int) * n) % S = 1) (hno : ∀ j : Nat, j < m → ¬ ((j : Int) * n) % S = 1) : invI S n = (m : Int) := by
  unfold invI
  rw [(List.find?_range_eq_some (p := fun (m : Nat) => decide (((m : Int) * n) % S = 1)) (n := S.toNat) (i := m)).2 ⟨by simpa using h, by simp; omega, fun j hj => by simpa using hno j hj⟩]
theorem inv_no {S n : Int} {m : Nat} (hm : S ≤ (m : Int)) (hno : ∀ j : Nat, j < m → ¬ ((j : Int) * n) % S = 1) : invI S n = 0 := by
  unfold invI
  rw [List.find?_eq_none.2 (fun j hj => by
    have := List.mem_range.1 hj
    simpa using hno j (by omega))]

theorem mul41 {a b : Int} (ha : 0 ≤ a ∧ a ≤ 41) (hb : 0 ≤ b ∧ b ≤ 41) : 0 ≤ a * b ∧ a * b ≤ 1681 :=
  ⟨Int.mul_nonneg ha.1 hb.1, Int.le_trans (Int.mul_le_mul ha.2 hb.2 hb.1 (by decide)) (by decide)⟩
theorem invI_le (S n : Int) (hS : 0 < S) : 0 ≤ invI S n ∧ invI S n < S := by
  unfold invI
  split
  · rename_i m h
    have := List.mem_range.1 (List.mem_of_find?_eq_some h)
    omega
  · omega

def sumN (l : List Int) : Nat → Int
  | 0 => 0
  | k + 1 => sumN l k + ((k : Int) + 1) * l.getD k 0
def divI (n : Int) (d : Nat) : Bool := decide (1 < d) && decide (n % (d : Int) = 0)
def primeI (n : Int) : Bool := (List.range n.toNat).all (fun d => !divI n d)
theorem prime_no {n : Int} {k : Nat} (hk : (k : Int) < n) (h : divI n k = true) : primeI n = false := by
  unfold primeI
  rw [List.all_eq_false]
  exact ⟨k, List.mem_range.2 (by omega), by rw [h]; simp⟩
theorem prime_yes {n : Int} {k : Nat} (hk : n ≤ (k : Int)) (h : ∀ j : Nat, j < k → divI n j = false) : primeI n = true := by
  unfold primeI
  rw [List.all_eq_true]
  intro j hj
  have := List.mem_range.1 hj
  rw [h j (by omega)]; rfl

def inS (S n : Int) : Bool := decide (0 ≤ n) && decide (n ≤ S - 1)
def keyOk (S mu ad st : Int) : Bool := ((decide (1 ≤ mu) && decide (mu ≤ S - 1)) && inS S ad) && inS S st

theorem fld41_0 (w : World) (b o : Nat) : (Instr.fieldAt 41 (ptr b o) 0).run Try.prog w = .ok (ptr b (o + 0)) w := by
  simp [Instr.fieldAt, run_underlying Try.underlying41, fieldPlace, Instr.sureAddr, Try.sizeOf3, Addr.add_lit]
theorem fld54_0 (w : World) (b o : Nat) : (Instr.fieldAt 54 (ptr b o) 0).run Try.prog w = .ok (ptr b (o + 0)) w := by
  simp [Instr.fieldAt, run_underlying Try.underlying54, fieldPlace, Instr.sureAddr, Try.sizeOf3, Addr.add_lit]
theorem fld54_1 (w : World) (b o : Nat) : (Instr.fieldAt 54 (ptr b o) 1).run Try.prog w = .ok (ptr b (o + 1)) w := by
  simp [Instr.fieldAt, run_underlying Try.underlying54, fieldPlace, Instr.sureAddr, Try.sizeOf3, Addr.add_lit]
theorem fld54_2 (w : World) (b o : Nat) : (Instr.fieldAt 54 (ptr b o) 2).run Try.prog w = .ok (ptr b (o + 2)) w := by
  simp [Instr.fieldAt, run_underlying Try.underlying54, fieldPlace, Instr.sureAddr, Try.sizeOf3, Addr.add_lit]
theorem fld41_3 (w : World) (b o : Nat) : (Instr.fieldAt 41 (ptr b o) 3).run Try.prog w = .ok (ptr b (o + 3)) w := by
  simp [Instr.fieldAt, run_underlying Try.underlying41, fieldPlace, Instr.sureAddr, Try.sizeOf26, Addr.add_lit]
theorem fld41_2 (w : World) (b o : Nat) : (Instr.fieldAt 41 (ptr b o) 2).run Try.prog w = .ok (ptr b (o + 2)) w := by
  simp [Instr.fieldAt, run_underlying Try.underlying41, fieldPlace, Instr.sureAddr, Try.sizeOf39, Addr.add_lit]
theorem fld28_2 (w : World) (b o : Nat) : (Instr.fieldAt 28 (ptr b o) 2).run Try.prog w = .ok (ptr b (o + 2)) w := by
  simp [Instr.fieldAt, run_underlying Try.underlying28, fieldPlace, Instr.sureAddr, Try.sizeOf25, Addr.add_lit]
theorem fld28_3 (w : World) (b o : Nat) : (Instr.fieldAt 28 (ptr b o) 3).run Try.prog w = .ok (ptr b (o + 3)) w := by
  simp [Instr.fieldAt, run_underlying Try.underlying28, fieldPlace, Instr.sureAddr, Try.sizeOf26, Addr.add_lit]
theorem fld28_0 (w : World) (b o : Nat) : (Instr.fieldAt 28 (ptr b o) 0).run Try.prog w = .ok (ptr b (o + 0)) w := by
  simp [Instr.fieldAt, run_underlying Try.underlying28, fieldPlace, Instr.sureAddr, Try.sizeOf3, Addr.add_lit]
theorem cwithin_ret (n lo hi : Int) (w : World) : Ret Try.prog 36 [vint n, vint lo, vint hi] w (fun v w' => v = .bool (decide (lo ≤ n) && decide (n ≤ hi)) ∧ w = w') := by
  have hB := Below.refl w.heap.size w
  have hsz : w.heap.size ≤ w.heap.size := Nat.le_refl _
  refine ret_of_runs (args := [_, _, _]) Try.func36 rfl (Nat.le_of_ble_eq_true rfl) (by kernel_rfl) ?_
  refine r_seq ?_
  refine r_region' ?_
  refine l_q (q_assign (v := .bool _) rfl rfl) ?_
  refine l_nil ?_
  refine r_forget [(0, .int _ _), (1, .int _ _), (2, .int _ _)] ⟨rfl, rfl, rfl, trivial⟩ (fun e1 => ?_)
  refine r_seq ?_
  refine r_region' ?_
  refine l_q (q_move (v := .int _ _) rfl rfl) ?_
  refine l_q (q_move (v := .int _ _) rfl rfl) ?_
  refine l_q (q_leq rfl rfl rfl) ?_
  refine l_q (q_move (v := .bool _) rfl rfl) ?_
  refine l_part 10 rfl (fun hc2 => ?_) (fun hc2 => ?_)
  · skip
    try simp only [decide_eq_true_eq, decide_eq_false_iff_not, Bool.not_eq_true', Bool.not_eq_false', Bool.not_not, Bool.not_true, Bool.not_false, Bool.not_eq_true, Bool.not_eq_false, Int.not_lt, Int.not_le, Bool.and_eq_true, Bool.or_eq_true, Bool.and_eq_false_iff, Bool.or_eq_false_iff] at hc2
    refine l_q (q_move (v := .int _ _) rfl rfl) ?_
    refine l_q (q_move (v := .int _ _) rfl rfl) ?_
    refine l_q (q_leq rfl rfl rfl) ?_
    refine l_q (q_pick_t (v := .bool _) rfl rfl rfl) ?_
    refine l_q (q_assign (v := .bool _) rfl rfl) ?_
    refine l_nil ?_
    refine r_forget [(6, .bool _)] ⟨rfl, trivial⟩ (fun e3 => ?_)
    refine r_ret_ (vs := [.bool _]) rfl Try.func36 rfl (.nil _) ⟨rfl, trivial⟩ ?_
    exact ⟨vbool_eq (by simp_all <;> omega), rfl⟩
  · skip
    try simp only [decide_eq_true_eq, decide_eq_false_iff_not, Bool.not_eq_true', Bool.not_eq_false', Bool.not_not, Bool.not_true, Bool.not_false, Bool.not_eq_true, Bool.not_eq_false, Int.not_lt, Int.not_le, Bool.and_eq_true, Bool.or_eq_true, Bool.and_eq_false_iff, Bool.or_eq_false_iff] at hc2
    refine l_q (q_skip rfl) ?_
    refine l_q (q_skip rfl) ?_
    refine l_q (q_skip rfl) ?_
    refine l_q (q_pick_f (v := .bool _) rfl rfl rfl) ?_
    refine l_q (q_assign (v := .bool _) rfl rfl) ?_
    refine l_nil ?_
    refine r_forget [(6, .bool _)] ⟨rfl, trivial⟩ (fun e4 => ?_)
    refine r_ret_ (vs := [.bool _]) rfl Try.func36 rfl (.nil _) ⟨rfl, trivial⟩ ?_
    exact ⟨vbool_eq (by simp_all <;> omega), rfl⟩
theorem in4_ret (n lo hi : Int) (w : World) : Ret Try.prog 17 [vint n, vint lo, vint hi] w (fun v w' => v = .bool (decide (lo ≤ n) && decide (n ≤ hi)) ∧ w = w') := by
  have hB := Below.refl w.heap.size w
  have hsz : w.heap.size ≤ w.heap.size := Nat.le_refl _
  refine ret_of_runs (args := [_, _, _]) Try.func17 rfl (Nat.le_of_ble_eq_true rfl) (by kernel_rfl) ?_
  refine r_seq ?_
  refine r_region' ?_
  refine l_q (q_assign (v := .bool _) rfl rfl) ?_
  refine l_nil ?_
  refine r_forget [(0, .int _ _), (1, .int _ _), (2, .int _ _)] ⟨rfl, rfl, rfl, trivial⟩ (fun e1 => ?_)
  refine r_seq ?_
  refine r_region' ?_
  refine l_q (q_move (v := .int _ _) rfl rfl) ?_
  refine l_q (q_move (v := .int _ _) rfl rfl) ?_
  refine l_q (q_geq rfl rfl rfl) ?_
  refine l_q (q_move (v := .bool _) rfl rfl) ?_
  refine l_part 10 rfl (fun hc2 => ?_) (fun hc2 => ?_)
  · skip
    try simp only [decide_eq_true_eq, decide_eq_false_iff_not, Bool.not_eq_true', Bool.not_eq_false', Bool.not_not, Bool.not_true, Bool.not_false, Bool.not_eq_true, Bool.not_eq_false, Int.not_lt, Int.not_le, Bool.and_eq_true, Bool.or_eq_true, Bool.and_eq_false_iff, Bool.or_eq_false_iff] at hc2
    refine l_q (q_move (v := .int _ _) rfl rfl) ?_
    refine l_q (q_move (v := .int _ _) rfl rfl) ?_
    refine l_q (q_leq rfl rfl rfl) ?_
    refine l_q (q_pick_t (v := .bool _) rfl rfl rfl) ?_
    refine l_q (q_assign (v := .bool _) rfl rfl) ?_
    refine l_nil ?_
    refine r_forget [(6, .bool _)] ⟨rfl, trivial⟩ (fun e3 => ?_)
    refine r_ret_ (vs := [.bool _]) rfl Try.func17 rfl (.nil _) ⟨rfl, trivial⟩ ?_
    exact ⟨vbool_eq (by simp_all <;> omega), rfl⟩
  · skip
    try simp only [decide_eq_true_eq, decide_eq_false_iff_not, Bool.not_eq_true', Bool.not_eq_false', Bool.not_not, Bool.not_true, Bool.not_false, Bool.not_eq_true, Bool.not_eq_false, Int.not_lt, Int.not_le, Bool.and_eq_true, Bool.or_eq_true, Bool.and_eq_false_iff, Bool.or_eq_false_iff] at hc2
    refine l_q (q_skip rfl) ?_
    refine l_q (q_skip rfl) ?_
    refine l_q (q_skip rfl) ?_
    refine l_q (q_pick_f (v := .bool _) rfl rfl rfl) ?_
    refine l_q (q_assign (v := .bool _) rfl rfl) ?_
    refine l_nil ?_
    refine r_forget [(6, .bool _)] ⟨rfl, trivial⟩ (fun e4 => ?_)
    refine r_ret_ (vs := [.bool _]) rfl Try.func17 rfl (.nil _) ⟨rfl, trivial⟩ ?_
    exact ⟨vbool_eq (by simp_all <;> omega), rfl⟩
theorem bplain_ret (S W : Int) (ka : Option Addr) (kn kc : Nat) (da : Option Addr) (dn dc : Nat) (n : Int) (w : World) (hS : 13 ≤ S ∧ S ≤ 41) : Ret Try.prog 23 [.agg ⟨[vint S, vint W, .slice ka kn kc, .slice da dn dc]⟩, vint n] w (fun v w' => v = .bool (decide (0 ≤ n) && decide (n ≤ S - 1)) ∧ Ext w w') := by
  have hB := Below.refl w.heap.size w
  have hsz : w.heap.size ≤ w.heap.size := Nat.le_refl _
  refine ret_of_runs (args := [_, _]) Try.func23 rfl (Nat.le_of_ble_eq_true rfl) (by kernel_rfl) ?_
  refine r_seq ?_
  refine r_region' ?_
  refine l_o (o_box rfl rfl rfl ?_)
  intro b1 w1 hzl1 hzr1 _ hb1 hE1
  have hbs_b1 : w.heap.size ≤ b1 := Nat.le_trans hsz hzl1
  replace hB := below_ext hB hE1 hsz
  replace hsz := Nat.le_trans hsz hE1.size
  refine l_q (q_assign (v := .bool _) rfl rfl) ?_
  refine l_nil ?_
  refine r_forget [(1, .int _ _), (2, .pointer _)] ⟨rfl, rfl, trivial⟩ (fun e2 => ?_)
  refine r_seq ?_
  refine r_region' ?_
  refine l_q (q_move (v := .int _ _) rfl rfl) ?_
  refine l_q (q_fieldAddr (o' := 0) rfl fld41_0 rfl) ?_
  refine l_q (q_load Try.isAgg3 rfl ((hb1.has (o := 0) rfl)) rfl) ?_
  refine l_q (q_sub rfl rfl (by omega) rfl) ?_
  refine l_o (o_call Try.call36 rfl (cwithin_ret _ _ _ _) rfl ?_)
  rintro _ w3 ⟨rfl, rfl⟩
  refine l_q (q_assign (v := .bool _) rfl rfl) ?_
  refine l_nil ?_
  refine r_forget [(4, .bool _)] ⟨rfl, trivial⟩ (fun e4 => ?_)
  refine r_ret_ (vs := [.bool _]) rfl Try.func23 rfl (.nil _) ⟨rfl, trivial⟩ ?_
  exact ⟨rfl, Ext.of_below hB⟩
theorem inverse_ret (S W : Int) (ka : Option Addr) (kn kc : Nat) (da : Option Addr) (dn dc : Nat) (n : Int) (w : World) (hS : 13 ≤ S ∧ S ≤ 41) (hn : 0 ≤ n ∧ n ≤ 41) : Ret Try.prog 54 [.agg ⟨[vint S, vint W, .slice ka kn kc, .slice da dn dc]⟩, vint n] w (fun v w' => v = vint (invI S n) ∧ Ext w w') := by
  have hB := Below.refl w.heap.size w
  have hsz : w.heap.size ≤ w.heap.size := Nat.le_refl _
  refine ret_of_runs (args := [_, _]) Try.func54 rfl (Nat.le_of_ble_eq_true rfl) (by kernel_rfl) ?_
  refine r_seq ?_
  refine r_region' ?_
  refine l_o (o_box rfl rfl rfl ?_)
  intro b1 w1 hzl1 hzr1 _ hb1 hE1
  have hbs_b1 : w.heap.size ≤ b1 := Nat.le_trans hsz hzl1
  replace hB := below_ext hB hE1 hsz
  replace hsz := Nat.le_trans hsz hE1.size
  refine l_q (q_assign (v := .int _ _) rfl rfl) ?_
  refine l_nil ?_
  refine r_forget [(1, .int _ _), (2, .pointer _)] ⟨rfl, rfl, trivial⟩ (fun e2 => ?_)
  refine r_seq ?_
  refine r_seq ?_
  refine r_region' ?_
  refine l_q (q_fieldAddr (o' := 0) rfl fld41_0 rfl) ?_
  refine l_q (q_load Try.isAgg3 rfl ((hb1.has (o := 0) rfl)) rfl) ?_
  refine l_q (q_move (v := .int _ _) rfl rfl) ?_
  refine l_nil ?_
  refine r_forget [(1, .int _ _), (2, .pointer _), (7, .int _ _), (8, .int _ _)] ⟨rfl, rfl, rfl, rfl, trivial⟩ (fun e3 => ?_)
  refine r_block ?_
  refine r_rounds (α := Nat) (fun m e wl => Knows e [(1, vint n), (2, ptr b1 0), (7, vint S), (8, vint (m : Int))] ∧ ((m : Int) ≤ S) ∧ (∀ j : Nat, j < m → ¬ ((j : Int) * n) % S = 1) ∧ (Blk wl b1 [vint S, vint W, .slice ka kn kc, .slice da dn dc]) ∧ (w.heap.size ≤ wl.heap.size) ∧ (Below w.heap.size w wl)) (fun m => S.toNat - m) 0 ?_ ?_
  · skip
    exact ⟨⟨rfl, rfl, rfl, rfl, trivial⟩, (by omega), (fun j hj => by omega), hb1, hsz, hB⟩
  · skip
    rintro m el4 wl4 ⟨hkn, hm, hno, hb1, hsz, hB⟩ ih4
    obtain ⟨e4, rfl⟩ := knows_env hkn
    refine r_seq ?_
    refine r_region' ?_
    refine l_q (q_lss rfl rfl rfl) ?_
    refine l_nil ?_
    refine r_seq ?_
    refine r_cond rfl (fun hc5 => ?_) (fun hc5 => ?_)
    · skip
      try simp only [decide_eq_true_eq, decide_eq_false_iff_not, Bool.not_eq_true', Bool.not_eq_false', Bool.not_not, Bool.not_true, Bool.not_false, Bool.not_eq_true, Bool.not_eq_false, Int.not_lt, Int.not_le, Bool.and_eq_true, Bool.or_eq_true, Bool.and_eq_false_iff, Bool.or_eq_false_iff] at hc5
      refine r_skip ?_
      refine r_seq ?_
      refine r_block ?_
      refine r_seq ?_
      refine r_region' ?_
      refine l_q (q_move (v := .int _ _) rfl rfl) ?_
      refine l_q (q_assign (v := .int _ _) rfl rfl) ?_
      refine l_nil ?_
      refine r_forget [(1, .int _ _), (2, .pointer _), (5, .int _ _), (7, .int _ _), (8, .int _ _)] ⟨rfl, rfl, rfl, rfl, rfl, trivial⟩ (fun e6 => ?_)
      refine r_seq ?_
      refine r_region' ?_
      refine l_q (q_move (v := .int _ _) rfl rfl) ?_
      refine l_q (q_move (v := .int _ _) rfl rfl) ?_
      refine l_q (q_mul rfl rfl (by have h1 : (m : Int) * n ≤ 41 * 41 := Int.mul_le_mul (by omega) (by omega) (by omega) (by decide); have h2 : 0 ≤ (m : Int) * n := Int.mul_nonneg (by omega) (by omega); omega) rfl) ?_
      refine l_q (q_fieldAddr (o' := 0) rfl fld41_0 rfl) ?_
      refine l_q (q_load Try.isAgg3 rfl ((hb1.has (o := 0) rfl)) rfl) ?_
      refine l_q (q_rem rfl rfl (⟨Int.mul_nonneg (by omega) (by omega), by omega⟩) rfl) ?_
      refine l_q (q_eql rfl rfl rfl) ?_
      refine l_nil ?_
      refine r_forget [(1, .int _ _), (2, .pointer _), (5, .int _ _), (7, .int _ _), (8, .int _ _), (17, .bool _)] ⟨rfl, rfl, rfl, rfl, rfl, rfl, trivial⟩ (fun e7 => ?_)
      refine r_cond rfl (fun hc8 => ?_) (fun hc8 => ?_)
      · skip
        try simp only [decide_eq_true_eq, decide_eq_false_iff_not, Bool.not_eq_true', Bool.not_eq_false', Bool.not_not, Bool.not_true, Bool.not_false, Bool.not_eq_true, Bool.not_eq_false, Int.not_lt, Int.not_le, Bool.and_eq_true, Bool.or_eq_true, Bool.and_eq_false_iff, Bool.or_eq_false_iff] at hc8
        refine r_seq ?_
        refine r_region' ?_
        refine l_q (q_move (v := .int _ _) rfl rfl) ?_
        refine l_q (q_assign (v := .int _ _) rfl rfl) ?_
        refine l_nil ?_
        refine r_forget [(4, .int _ _)] ⟨rfl, trivial⟩ (fun e9 => ?_)
        refine r_ret_ (vs := [.int _ _]) rfl Try.func54 rfl (.nil _) ⟨rfl, trivial⟩ ?_
        exact ⟨vint_eq (inv_yes (by omega) (by assumption) hno).symm, Ext.of_below hB⟩
      · skip
        try simp only [decide_eq_true_eq, decide_eq_false_iff_not, Bool.not_eq_true', Bool.not_eq_false', Bool.not_not, Bool.not_true, Bool.not_false, Bool.not_eq_true, Bool.not_eq_false, Int.not_lt, Int.not_le, Bool.and_eq_true, Bool.or_eq_true, Bool.and_eq_false_iff, Bool.or_eq_false_iff] at hc8
        refine r_skip ?_
        refine r_inBlock ?_
        refine r_region' ?_
        refine l_q (q_add rfl rfl (by omega) rfl) ?_
        refine l_q (q_move (v := .int _ _) rfl rfl) ?_
        refine l_nil ?_
        refine r_forget [(1, .int _ _), (2, .pointer _), (7, .int _ _), (8, .int _ _)] ⟨rfl, rfl, rfl, rfl, trivial⟩ (fun e10 => ?_)
        exact ih4 (m + 1) _ _ ⟨⟨rfl, rfl, rfl, by first | rfl | exact vint_eq (by omega), trivial⟩, (by omega), (fun j hj => by rcases Nat.lt_succ_iff_lt_or_eq.1 hj with h | h; exact hno j h; subst h; assumption), hb1, hsz, hB⟩ (by first | omega | (dsimp only; omega))
    · skip
      try simp only [decide_eq_true_eq, decide_eq_false_iff_not, Bool.not_eq_true', Bool.not_eq_false', Bool.not_not, Bool.not_true, Bool.not_false, Bool.not_eq_true, Bool.not_eq_false, Int.not_lt, Int.not_le, Bool.and_eq_true, Bool.or_eq_true, Bool.and_eq_false_iff, Bool.or_eq_false_iff] at hc5
      refine r_exit rfl ?_
      refine r_seq ?_
      refine r_region' ?_
      refine l_q (q_assign (v := .int _ _) rfl rfl) ?_
      refine l_nil ?_
      refine r_forget [(4, .int _ _)] ⟨rfl, trivial⟩ (fun e11 => ?_)
      refine r_ret_ (vs := [.int _ _]) rfl Try.func54 rfl (.nil _) ⟨rfl, trivial⟩ ?_
      exact ⟨vint_eq (inv_no (m := m) (by omega) hno).symm, Ext.of_below hB⟩
theorem code4_ret (S W : Int) (ka : Option Addr) (kn kc : Nat) (da : Option Addr) (dn dc : Nat) (mu ad st : Int) (n at_ : Int) (w : World) (hS : 13 ≤ S ∧ S ≤ 41) (hmu : 0 ≤ mu ∧ mu ≤ 41) (had : 0 ≤ ad ∧ ad ≤ S) (hst : 0 ≤ st ∧ st ≤ S) (hn : 0 ≤ n ∧ n ≤ 41) (hat : 0 ≤ at_ ∧ at_ ≤ 41) : Ret Try.prog 26 [.agg ⟨[vint S, vint W, .slice ka kn kc, .slice da dn dc]⟩, .agg ⟨[vint mu, vint ad, vint st]⟩, vint n, vint at_] w (fun v w' => v = vint ((mu * n + ad + at_ * st) % S) ∧ Ext w w') := by
  have h1 := mul41 hmu hn
  have h2 := mul41 hat ⟨hst.1, (by omega : st ≤ 41)⟩
  have hB := Below.refl w.heap.size w
  have hsz : w.heap.size ≤ w.heap.size := Nat.le_refl _
  refine ret_of_runs (args := [_, _, _, _]) Try.func26 rfl (Nat.le_of_ble_eq_true rfl) (by kernel_rfl) ?_
  refine r_seq ?_
  refine r_region' ?_
  refine l_o (o_box rfl rfl rfl ?_)
  intro b1 w1 hzl1 hzr1 _ hb1 hE1
  have hbs_b1 : w.heap.size ≤ b1 := Nat.le_trans hsz hzl1
  replace hB := below_ext hB hE1 hsz
  replace hsz := Nat.le_trans hsz hE1.size
  refine l_o (o_box rfl rfl rfl ?_)
  intro b2 w2 hzl2 hzr2 _ hb2 hE2
  have hbs_b2 : w.heap.size ≤ b2 := Nat.le_trans hsz hzl2
  replace hB := below_ext hB hE2 hsz
  replace hb1 := hb1.ext hE2
  replace hsz := Nat.le_trans hsz hE2.size
  refine l_q (q_assign (v := .int _ _) rfl rfl) ?_
  refine l_nil ?_
  refine r_forget [(2, .int _ _), (3, .int _ _), (4, .pointer _), (5, .pointer _)] ⟨rfl, rfl, rfl, rfl, trivial⟩ (fun e3 => ?_)
  refine r_seq ?_
  refine r_region' ?_
  refine l_q (q_fieldAddr (o' := 0) rfl fld54_0 rfl) ?_
  refine l_q (q_load Try.isAgg3 rfl ((hb2.has (o := 0) rfl)) rfl) ?_
  refine l_q (q_move (v := .int _ _) rfl rfl) ?_
  refine l_q (q_mul rfl rfl (by omega) rfl) ?_
  refine l_q (q_fieldAddr (o' := 1) rfl fld54_1 rfl) ?_
  refine l_q (q_load Try.isAgg3 rfl ((hb2.has (o := 1) rfl)) rfl) ?_
  refine l_q (q_add rfl rfl (by omega) rfl) ?_
  refine l_q (q_move (v := .int _ _) rfl rfl) ?_
  refine l_q (q_fieldAddr (o' := 2) rfl fld54_2 rfl) ?_
  refine l_q (q_load Try.isAgg3 rfl ((hb2.has (o := 2) rfl)) rfl) ?_
  refine l_q (q_mul rfl rfl (by omega) rfl) ?_
  refine l_q (q_add rfl rfl (by omega) rfl) ?_
  refine l_q (q_fieldAddr (o' := 0) rfl fld41_0 rfl) ?_
  refine l_q (q_load Try.isAgg3 rfl ((hb1.has (o := 0) rfl)) rfl) ?_
  refine l_q (q_rem rfl rfl (by omega) rfl) ?_
  refine l_q (q_assign (v := .int _ _) rfl rfl) ?_
  refine l_nil ?_
  refine r_forget [(8, .int _ _)] ⟨rfl, trivial⟩ (fun e4 => ?_)
  refine r_ret_ (vs := [.int _ _]) rfl Try.func26 rfl (.nil _) ⟨rfl, trivial⟩ ?_
  exact ⟨rfl, Ext.of_below hB⟩
theorem decode4_ret (S W : Int) (ka : Option Addr) (kn kc : Nat) (da : Option Addr) (dn dc : Nat) (mu ad st : Int) (n at_ : Int) (w : World) (hS : 13 ≤ S ∧ S ≤ 41) (hmu : 0 ≤ mu ∧ mu ≤ 41) (had : 0 ≤ ad ∧ ad ≤ S) (hst : 0 ≤ st ∧ st ≤ S) (hn : 0 ≤ n ∧ n ≤ 41) (hat : 0 ≤ at_ ∧ at_ ≤ 41) : Ret Try.prog 37 [.agg ⟨[vint S, vint W, .slice ka kn kc, .slice da dn dc]⟩, .agg ⟨[vint mu, vint ad, vint st]⟩, vint n, vint at_] w (fun v w' => v = vint ((((n + (S - ad) % S) + at_ * (S - st)) % S) * invI S mu % S) ∧ Ext w w') := by
  have h2 := mul41 hat (b := S - st) (by omega)
  have h3 := Int.emod_nonneg (S - ad) (show S ≠ 0 by omega)
  have h4 := Int.emod_lt_of_pos (S - ad) (show 0 < S by omega)
  have h5 := Int.emod_nonneg ((n + (S - ad) % S) + at_ * (S - st)) (show S ≠ 0 by omega)
  have h6 := Int.emod_lt_of_pos ((n + (S - ad) % S) + at_ * (S - st)) (show 0 < S by omega)
  have h7 := invI_le S mu (by omega)
  have h8 := mul41 (a := ((n + (S - ad) % S) + at_ * (S - st)) % S) (b := invI S mu) (by omega) (by omega)
  have hB := Below.refl w.heap.size w
  have hsz : w.heap.size ≤ w.heap.size := Nat.le_refl _
  refine ret_of_runs (args := [_, _, _, _]) Try.func37 rfl (Nat.le_of_ble_eq_true rfl) (by kernel_rfl) ?_
  refine r_seq ?_
  refine r_region' ?_
  refine l_o (o_box rfl rfl rfl ?_)
  intro b1 w1 hzl1 hzr1 _ hb1 hE1
  have hbs_b1 : w.heap.size ≤ b1 := Nat.le_trans hsz hzl1
  replace hB := below_ext hB hE1 hsz
  replace hsz := Nat.le_trans hsz hE1.size
  refine l_o (o_box rfl rfl rfl ?_)
  intro b2 w2 hzl2 hzr2 _ hb2 hE2
  have hbs_b2 : w.heap.size ≤ b2 := Nat.le_trans hsz hzl2
  replace hB := below_ext hB hE2 hsz
  replace hb1 := hb1.ext hE2
  replace hsz := Nat.le_trans hsz hE2.size
  refine l_q (q_assign (v := .int _ _) rfl rfl) ?_
  refine l_nil ?_
  refine r_forget [(2, .int _ _), (3, .int _ _), (4, .pointer _), (5, .pointer _)] ⟨rfl, rfl, rfl, rfl, trivial⟩ (fun e3 => ?_)
  refine r_seq ?_
  refine r_draw ext_refl' ext_trans' [0, 1, 2, 3, 4, 5, 6, 7, 8, 9, 10, 11, 12, 13, 14, 15, 16, 17, 18, 19, 20, 21] [] 6 (by kernel_rfl) (by kernel_rfl) ?_
  intro w4 _ hE4
  replace hB := below_ext hB hE4 hsz
  replace hb1 := hb1.ext hE4
  replace hb2 := hb2.ext hE4
  replace hsz := Nat.le_trans hsz hE4.size
  refine m_q rfl rfl (fun w' hC' => q_move (v := .int _ _) rfl rfl) ?_
  refine m_q rfl rfl (fun w' hC' => q_fieldAddr (o' := 0) rfl fld41_0 rfl) ?_
  refine m_q rfl rfl (fun w' hC' => q_load Try.isAgg3 rfl (((hb1.has (o := 0) rfl).ext hC')) rfl) ?_
  refine m_q rfl rfl (fun w' hC' => q_fieldAddr (o' := 1) rfl fld54_1 rfl) ?_
  refine m_q rfl rfl (fun w' hC' => q_load Try.isAgg3 rfl (((hb2.has (o := 1) rfl).ext hC')) rfl) ?_
  refine m_q rfl rfl (fun w' hC' => q_sub rfl rfl (by omega) rfl) ?_
  refine m_q rfl rfl (fun w' hC' => q_fieldAddr (o' := 0) rfl fld41_0 rfl) ?_
  refine m_q rfl rfl (fun w' hC' => q_load Try.isAgg3 rfl (((hb1.has (o := 0) rfl).ext hC')) rfl) ?_
  refine m_q rfl rfl (fun w' hC' => q_rem rfl rfl (by omega) rfl) ?_
  refine m_q rfl rfl (fun w' hC' => q_add rfl rfl (by omega) rfl) ?_
  refine m_q rfl rfl (fun w' hC' => q_move (v := .int _ _) rfl rfl) ?_
  refine m_q rfl rfl (fun w' hC' => q_fieldAddr (o' := 0) rfl fld41_0 rfl) ?_
  refine m_q rfl rfl (fun w' hC' => q_load Try.isAgg3 rfl (((hb1.has (o := 0) rfl).ext hC')) rfl) ?_
  refine m_q rfl rfl (fun w' hC' => q_fieldAddr (o' := 2) rfl fld54_2 rfl) ?_
  refine m_q rfl rfl (fun w' hC' => q_load Try.isAgg3 rfl (((hb2.has (o := 2) rfl).ext hC')) rfl) ?_
  refine m_q rfl rfl (fun w' hC' => q_sub rfl rfl (by omega) rfl) ?_
  refine m_q rfl rfl (fun w' hC' => q_mul rfl rfl (by omega) rfl) ?_
  refine m_q rfl rfl (fun w' hC' => q_add rfl rfl (by omega) rfl) ?_
  refine m_q rfl rfl (fun w' hC' => q_fieldAddr (o' := 0) rfl fld41_0 rfl) ?_
  refine m_q rfl rfl (fun w' hC' => q_load Try.isAgg3 rfl (((hb1.has (o := 0) rfl).ext hC')) rfl) ?_
  refine m_q rfl rfl (fun w' hC' => q_rem rfl rfl (by omega) rfl) ?_
  refine m_q rfl rfl (fun w' hC' => q_assign (v := .int _ _) rfl rfl) ?_
  refine m_nil ?_
  refine r_forget [(4, .pointer _), (5, .pointer _), (9, .int _ _)] ⟨rfl, rfl, rfl, trivial⟩ (fun e5 => ?_)
  refine r_seq ?_
  refine r_draw ext_refl' ext_trans' [0, 1, 2, 3, 6, 7, 4, 5, 8, 9] [4] 6 (by kernel_rfl) (by kernel_rfl) ?_
  intro w6 _ hE6
  replace hB := below_ext hB hE6 hsz
  replace hb1 := hb1.ext hE6
  replace hb2 := hb2.ext hE6
  replace hsz := Nat.le_trans hsz hE6.size
  refine m_q rfl rfl (fun w' hC' => q_move (v := .int _ _) rfl rfl) ?_
  refine m_q rfl rfl (fun w' hC' => q_load_agg (n := 4) Try.isAgg41 Try.sizeOf41 rfl (((hb1.cells' (cs' := [_, _, _, _]) 0 4 rfl).ext hC')) rfl rfl) ?_
  refine m_q rfl rfl (fun w' hC' => q_fieldAddr (o' := 0) rfl fld54_0 rfl) ?_
  refine m_q rfl rfl (fun w' hC' => q_load Try.isAgg3 rfl (((hb2.has (o := 0) rfl).ext hC')) rfl) ?_
  refine m_q rfl rfl (fun w' hC' => q_fieldAddr (o' := 0) rfl fld41_0 rfl) ?_
  refine m_q rfl rfl (fun w' hC' => q_load Try.isAgg3 rfl (((hb1.has (o := 0) rfl).ext hC')) rfl) ?_
  refine m_o rfl rfl (o_call Try.call54 rfl (inverse_ret S W ka kn kc da dn dc mu _ hS hmu) rfl ?_)
  rintro _ w7 ⟨rfl, hE7⟩
  refine ⟨hE7, ?_⟩
  replace hB := below_ext hB hE7 hsz
  replace hb1 := hb1.ext hE7
  replace hb2 := hb2.ext hE7
  replace hsz := Nat.le_trans hsz hE7.size
  refine m_q rfl rfl (fun w' hC' => q_mul rfl rfl (by omega) rfl) ?_
  refine m_q rfl rfl (fun w' hC' => q_rem rfl rfl (by omega) rfl) ?_
  refine m_q rfl rfl (fun w' hC' => q_assign (v := .int _ _) rfl rfl) ?_
  refine m_nil ?_
  refine r_forget [(8, .int _ _)] ⟨rfl, trivial⟩ (fun e8 => ?_)
  refine r_ret_ (vs := [.int _ _]) rfl Try.func37 rfl (.nil _) ⟨rfl, trivial⟩ ?_
  exact ⟨rfl, Ext.of_below hB⟩
theorem check4_ret (S W : Int) (ka : Option Addr) (kn kc : Nat) (da : Option Addr) (dn dc : Nat) (xa : Option Addr) (xc : Nat) (xs : List Int) (w : World) (hS : 13 ≤ S ∧ S ≤ 41) (hx : Row w xa xs.length xc 1 (xs.map vint)) (hxn : xs.length ≤ 2097152) (hx13 : xs.length ≤ 13) (hxr : ∀ x ∈ xs, 0 ≤ x ∧ x ≤ 41) : Ret Try.prog 27 [.agg ⟨[vint S, vint W, .slice ka kn kc, .slice da dn dc]⟩, .slice xa xs.length xc] w (fun v w' => v = vint (sumN xs xs.length % S) ∧ Ext w w') := by
  have hB := Below.refl w.heap.size w
  have hsz : w.heap.size ≤ w.heap.size := Nat.le_refl _
  refine ret_of_runs (args := [_, _]) Try.func27 rfl (Nat.le_of_ble_eq_true rfl) (by kernel_rfl) ?_
  refine r_seq ?_
  refine r_region' ?_
  refine l_o (o_box rfl rfl rfl ?_)
  intro b1 w1 hzl1 hzr1 _ hb1 hE1
  have hbs_b1 : w.heap.size ≤ b1 := Nat.le_trans hsz hzl1
  replace hB := below_ext hB hE1 hsz
  replace hsz := Nat.le_trans hsz hE1.size
  refine l_q (q_assign (v := .int _ _) rfl rfl) ?_
  refine l_nil ?_
  refine r_forget [(1, .slice _ _ _), (2, .pointer _), (4, .int _ _)] ⟨rfl, rfl, rfl, trivial⟩ (fun e2 => ?_)
  refine r_seq ?_
  refine r_seq ?_
  refine r_region' ?_
  refine l_q (q_move (v := .slice _ _ _) rfl rfl) ?_
  refine l_q (q_len rfl Try.underlying26 rfl rfl) ?_
  refine l_q (q_move (v := .int _ _) rfl rfl) ?_
  refine l_nil ?_
  refine r_forget [(2, .pointer _), (4, .int _ _), (7, .slice _ _ _), (8, .int _ _), (9, .int _ _)] ⟨rfl, rfl, rfl, rfl, rfl, trivial⟩ (fun e3 => ?_)
  refine r_block ?_
  refine r_rounds (α := Nat × Int) (fun ⟨k, s⟩ e wl => Knows e [(2, ptr b1 0), (4, vint s), (7, .slice xa xs.length xc), (8, vint (xs.length : Int)), (9, vint (k : Int))] ∧ (k ≤ xs.length) ∧ (s = sumN xs k) ∧ (0 ≤ s ∧ s ≤ 1681 * k) ∧ (Blk wl b1 [vint S, vint W, .slice ka kn kc, .slice da dn dc]) ∧ (w.heap.size ≤ wl.heap.size) ∧ (Below w.heap.size w wl)) (fun ⟨k, s⟩ => xs.length - k) (0, 0) ?_ ?_
  · skip
    exact ⟨⟨rfl, rfl, rfl, rfl, rfl, trivial⟩, (by omega), rfl, (by omega), hb1, hsz, hB⟩
  · skip
    rintro ⟨k, s⟩ el4 wl4 ⟨hkn, hkk, hs, hsb, hb1, hsz, hB⟩ ih4
    obtain ⟨e4, rfl⟩ := knows_env hkn
    refine r_seq ?_
    refine r_region' ?_
    refine l_q (q_lss rfl rfl rfl) ?_
    refine l_nil ?_
    refine r_seq ?_
    refine r_cond rfl (fun hc5 => ?_) (fun hc5 => ?_)
    · skip
      try simp only [decide_eq_true_eq, decide_eq_false_iff_not, Bool.not_eq_true', Bool.not_eq_false', Bool.not_not, Bool.not_true, Bool.not_false, Bool.not_eq_true, Bool.not_eq_false, Int.not_lt, Int.not_le, Bool.and_eq_true, Bool.or_eq_true, Bool.and_eq_false_iff, Bool.or_eq_false_iff] at hc5
      have hkl : k < xs.length := Int.ofNat_lt.1 hc5
      have hxk := hxr _ (getD_lt (d := 0) hkl)
      have hml := mul41 (a := (k : Int) + 1) (b := xs.getD k 0) (by omega) hxk
      refine r_skip ?_
      refine r_seq ?_
      refine r_block ?_
      refine r_seq ?_
      refine r_region' ?_
      refine l_q (q_move (v := .int _ _) rfl rfl) ?_
      obtain ⟨b6, o6, ha6, hh6⟩ := (hx.below hB).at1 k ((xs).getD k 0) (getD_some (by omega))
      refine l_q (q_indexAddr1 Try.underlying26 Try.sizeOf3 rfl ha6 rfl (by omega) rfl) ?_
      refine l_q (q_load Try.isAgg3 rfl (hh6) rfl) ?_
      refine l_q (q_assign (v := .int _ _) rfl rfl) ?_
      refine l_q (q_assign (v := .int _ _) rfl rfl) ?_
      refine l_nil ?_
      refine r_forget [(2, .pointer _), (4, .int _ _), (5, .int _ _), (6, .int _ _), (7, .slice _ _ _), (8, .int _ _), (9, .int _ _)] ⟨rfl, rfl, rfl, rfl, rfl, rfl, rfl, trivial⟩ (fun e7 => ?_)
      refine r_region' ?_
      refine l_q (q_move (v := .int _ _) rfl rfl) ?_
      refine l_q (q_move (v := .int _ _) rfl rfl) ?_
      refine l_q (q_add rfl rfl (by omega) rfl) ?_
      refine l_q (q_move (v := .int _ _) rfl rfl) ?_
      refine l_q (q_mul rfl rfl (by omega) rfl) ?_
      refine l_q (q_add rfl rfl (by omega) rfl) ?_
      refine l_q (q_assign (v := .int _ _) rfl rfl) ?_
      refine l_nil ?_
      refine r_forget [(2, .pointer _), (4, .int _ _), (7, .slice _ _ _), (8, .int _ _), (9, .int _ _)] ⟨rfl, rfl, rfl, rfl, rfl, trivial⟩ (fun e8 => ?_)
      refine r_inBlock ?_
      refine r_region' ?_
      refine l_q (q_add rfl rfl (by omega) rfl) ?_
      refine l_q (q_move (v := .int _ _) rfl rfl) ?_
      refine l_nil ?_
      refine r_forget [(2, .pointer _), (4, .int _ _), (7, .slice _ _ _), (8, .int _ _), (9, .int _ _)] ⟨rfl, rfl, rfl, rfl, rfl, trivial⟩ (fun e9 => ?_)
      exact ih4 (k + 1, s + ((k : Int) + 1) * xs.getD k 0) _ _ ⟨⟨rfl, rfl, rfl, rfl, by first | rfl | exact vint_eq (by omega), trivial⟩, (by omega), (by rw [hs]; rfl), (by omega), hb1, hsz, hB⟩ (by first | omega | (dsimp only; omega))
    · skip
      try simp only [decide_eq_true_eq, decide_eq_false_iff_not, Bool.not_eq_true', Bool.not_eq_false', Bool.not_not, Bool.not_true, Bool.not_false, Bool.not_eq_true, Bool.not_eq_false, Int.not_lt, Int.not_le, Bool.and_eq_true, Bool.or_eq_true, Bool.and_eq_false_iff, Bool.or_eq_false_iff] at hc5
      refine r_exit rfl ?_
      refine r_seq ?_
      refine r_region' ?_
      refine l_q (q_move (v := .int _ _) rfl rfl) ?_
      refine l_q (q_fieldAddr (o' := 0) rfl fld41_0 rfl) ?_
      refine l_q (q_load Try.isAgg3 rfl ((hb1.has (o := 0) rfl)) rfl) ?_
      refine l_q (q_rem rfl rfl (by omega) rfl) ?_
      refine l_q (q_assign (v := .int _ _) rfl rfl) ?_
      refine l_nil ?_
      refine r_forget [(4, .int _ _)] ⟨rfl, trivial⟩ (fun e10 => ?_)
      refine r_ret_ (vs := [.int _ _]) rfl Try.func27 rfl (.nil _) ⟨rfl, trivial⟩ ?_
      have hk : k = xs.length := by omega
      subst hk
      exact ⟨vint_eq (by rw [hs]), Ext.of_below hB⟩
theorem prime4_ret (n : Int) (w : World) (hn : 0 ≤ n ∧ n ≤ 100) : Ret Try.prog 47 [vint n] w (fun v w' => v = .bool (primeI n) ∧ Ext w w') := by
  have hB := Below.refl w.heap.size w
  have hsz : w.heap.size ≤ w.heap.size := Nat.le_refl _
  refine ret_of_runs (args := [_]) Try.func47 rfl (Nat.le_of_ble_eq_true rfl) (by kernel_rfl) ?_
  refine r_seq ?_
  refine r_region' ?_
  refine l_q (q_assign (v := .bool _) rfl rfl) ?_
  refine l_nil ?_
  refine r_forget [(0, .int _ _)] ⟨rfl, trivial⟩ (fun e1 => ?_)
  refine r_scope ?_
  refine r_seq ?_
  refine r_region' ?_
  refine l_q (q_assign (v := .bool _) rfl rfl) ?_
  refine l_nil ?_
  refine r_seq ?_
  refine r_label ?_
  refine r_seq ?_
  refine r_seq ?_
  refine r_region' ?_
  refine l_q (q_move (v := .int _ _) rfl rfl) ?_
  refine l_q (q_move (v := .int _ _) rfl rfl) ?_
  refine l_nil ?_
  refine r_block ?_
  refine r_rounds (α := Nat) (fun k e wl => Knows e [(0, vint n), (2, .bool true), (4, vint n), (5, vint (k : Int))] ∧ (k ≤ n.toNat) ∧ ((k : Int) ≤ n) ∧ (∀ j : Nat, j < k → divI n j = false) ∧ (w.heap.size ≤ wl.heap.size) ∧ (Below w.heap.size w wl)) (fun k => n.toNat - k) 0 ?_ ?_
  · skip
    exact ⟨⟨rfl, rfl, rfl, rfl, trivial⟩, (by omega), (by omega), (fun j hj => by omega), hsz, hB⟩
  · skip
    rintro k el2 wl2 ⟨hkn, hkk, hk2, hno, hsz, hB⟩ ih2
    obtain ⟨e2, rfl⟩ := knows_env hkn
    refine r_seq ?_
    refine r_region' ?_
    refine l_q (q_lss rfl rfl rfl) ?_
    refine l_nil ?_
    refine r_seq ?_
    refine r_cond rfl (fun hc3 => ?_) (fun hc3 => ?_)
    · skip
      try simp only [decide_eq_true_eq, decide_eq_false_iff_not, Bool.not_eq_true', Bool.not_eq_false', Bool.not_not, Bool.not_true, Bool.not_false, Bool.not_eq_true, Bool.not_eq_false, Int.not_lt, Int.not_le, Bool.and_eq_true, Bool.or_eq_true, Bool.and_eq_false_iff, Bool.or_eq_false_iff] at hc3
      refine r_skip ?_
      refine r_seq ?_
      refine r_block ?_
      refine r_seq ?_
      refine r_region' ?_
      refine l_q (q_move (v := .int _ _) rfl rfl) ?_
      refine l_q (q_assign (v := .int _ _) rfl rfl) ?_
      refine l_nil ?_
      refine r_forget [(0, .int _ _), (2, .bool _), (3, .int _ _), (4, .int _ _), (5, .int _ _)] ⟨rfl, rfl, rfl, rfl, rfl, trivial⟩ (fun e4 => ?_)
      refine r_seq ?_
      refine r_region' ?_
      refine l_q (q_move (v := .int _ _) rfl rfl) ?_
      refine l_q (q_gtr rfl rfl rfl) ?_
      refine l_q (q_move (v := .bool _) rfl rfl) ?_
      refine l_part 10 rfl (fun hc5 => ?_) (fun hc5 => ?_)
      · skip
        try simp only [decide_eq_true_eq, decide_eq_false_iff_not, Bool.not_eq_true', Bool.not_eq_false', Bool.not_not, Bool.not_true, Bool.not_false, Bool.not_eq_true, Bool.not_eq_false, Int.not_lt, Int.not_le, Bool.and_eq_true, Bool.or_eq_true, Bool.and_eq_false_iff, Bool.or_eq_false_iff] at hc5
        refine l_q (q_move (v := .int _ _) rfl rfl) ?_
        refine l_q (q_move (v := .int _ _) rfl rfl) ?_
        refine l_q (q_rem rfl rfl (by omega) rfl) ?_
        refine l_q (q_eql rfl rfl rfl) ?_
        refine l_q (q_pick_t (v := .bool _) rfl rfl rfl) ?_
        refine l_nil ?_
        refine r_forget [(0, .int _ _), (2, .bool _), (4, .int _ _), (5, .int _ _), (15, .bool _)] ⟨rfl, rfl, rfl, rfl, rfl, trivial⟩ (fun e6 => ?_)
        refine r_cond rfl (fun hc7 => ?_) (fun hc7 => ?_)
        · skip
          try simp only [decide_eq_true_eq, decide_eq_false_iff_not, Bool.not_eq_true', Bool.not_eq_false', Bool.not_not, Bool.not_true, Bool.not_false, Bool.not_eq_true, Bool.not_eq_false, Int.not_lt, Int.not_le, Bool.and_eq_true, Bool.or_eq_true, Bool.and_eq_false_iff, Bool.or_eq_false_iff] at hc7
          refine r_seq ?_
          refine r_region' ?_
          refine l_q (q_assign (v := .bool _) rfl rfl) ?_
          refine l_nil ?_
          refine r_forget [(2, .bool _)] ⟨rfl, trivial⟩ (fun e8 => ?_)
          refine r_exit rfl ?_
          refine r_seq ?_
          refine r_region' ?_
          refine l_q (q_move (v := .bool _) rfl rfl) ?_
          refine l_q (q_assign (v := .bool _) rfl rfl) ?_
          refine l_nil ?_
          refine r_forget [(2, .bool _)] ⟨rfl, trivial⟩ (fun e9 => ?_)
          refine r_ret_ (vs := [.bool _]) rfl Try.func47 rfl (.nil _) ⟨rfl, trivial⟩ ?_
          exact ⟨vbool_eq (by exact (prime_no (k := k) (by omega) (by unfold divI; rw [decide_eq_true (show 1 < k by omega), Bool.true_and]; exact decide_eq_true (by assumption))).symm), Ext.of_below hB⟩
        · skip
          try simp only [decide_eq_true_eq, decide_eq_false_iff_not, Bool.not_eq_true', Bool.not_eq_false', Bool.not_not, Bool.not_true, Bool.not_false, Bool.not_eq_true, Bool.not_eq_false, Int.not_lt, Int.not_le, Bool.and_eq_true, Bool.or_eq_true, Bool.and_eq_false_iff, Bool.or_eq_false_iff] at hc7
          refine r_skip ?_
          refine r_inBlock ?_
          refine r_region' ?_
          refine l_q (q_add rfl rfl (by omega) rfl) ?_
          refine l_q (q_move (v := .int _ _) rfl rfl) ?_
          refine l_nil ?_
          refine r_forget [(0, .int _ _), (2, .bool _), (4, .int _ _), (5, .int _ _)] ⟨rfl, rfl, rfl, rfl, trivial⟩ (fun e10 => ?_)
          exact ih2 (k + 1) _ _ ⟨⟨rfl, rfl, rfl, by first | rfl | exact vint_eq (by omega), trivial⟩, (by omega), (by omega), (fun j hj => by rcases Nat.lt_succ_iff_lt_or_eq.1 hj with h | h; exact hno j h; subst h; unfold divI; first | (rw [decide_eq_false (by omega)]; rfl) | (rw [Bool.and_eq_false_iff]; right; exact decide_eq_false (by assumption))), hsz, hB⟩ (by first | omega | (dsimp only; omega))
      · skip
        try simp only [decide_eq_true_eq, decide_eq_false_iff_not, Bool.not_eq_true', Bool.not_eq_false', Bool.not_not, Bool.not_true, Bool.not_false, Bool.not_eq_true, Bool.not_eq_false, Int.not_lt, Int.not_le, Bool.and_eq_true, Bool.or_eq_true, Bool.and_eq_false_iff, Bool.or_eq_false_iff] at hc5
        refine l_q (q_skip rfl) ?_
        refine l_q (q_skip rfl) ?_
        refine l_q (q_skip rfl) ?_
        refine l_q (q_skip rfl) ?_
        refine l_q (q_pick_f (v := .bool _) rfl rfl rfl) ?_
        refine l_nil ?_
        refine r_forget [(0, .int _ _), (2, .bool _), (4, .int _ _), (5, .int _ _), (15, .bool _)] ⟨rfl, rfl, rfl, rfl, rfl, trivial⟩ (fun e11 => ?_)
        refine r_cond_f rfl ?_
        refine r_skip ?_
        refine r_inBlock ?_
        refine r_region' ?_
        refine l_q (q_add rfl rfl (by omega) rfl) ?_
        refine l_q (q_move (v := .int _ _) rfl rfl) ?_
        refine l_nil ?_
        refine r_forget [(0, .int _ _), (2, .bool _), (4, .int _ _), (5, .int _ _)] ⟨rfl, rfl, rfl, rfl, trivial⟩ (fun e12 => ?_)
        exact ih2 (k + 1) _ _ ⟨⟨rfl, rfl, rfl, by first | rfl | exact vint_eq (by omega), trivial⟩, (by omega), (by omega), (fun j hj => by rcases Nat.lt_succ_iff_lt_or_eq.1 hj with h | h; exact hno j h; subst h; unfold divI; first | (rw [decide_eq_false (by omega)]; rfl) | (rw [Bool.and_eq_false_iff]; right; exact decide_eq_false (by assumption))), hsz, hB⟩ (by first | omega | (dsimp only; omega))
    · skip
      try simp only [decide_eq_true_eq, decide_eq_false_iff_not, Bool.not_eq_true', Bool.not_eq_false', Bool.not_not, Bool.not_true, Bool.not_false, Bool.not_eq_true, Bool.not_eq_false, Int.not_lt, Int.not_le, Bool.and_eq_true, Bool.or_eq_true, Bool.and_eq_false_iff, Bool.or_eq_false_iff] at hc3
      refine r_exit rfl ?_
      refine r_seq ?_
      refine r_region' ?_
      refine l_q (q_move (v := .bool _) rfl rfl) ?_
      refine l_q (q_assign (v := .bool _) rfl rfl) ?_
      refine l_nil ?_
      refine r_forget [(2, .bool _)] ⟨rfl, trivial⟩ (fun e13 => ?_)
      refine r_ret_ (vs := [.bool _]) rfl Try.func47 rfl (.nil _) ⟨rfl, trivial⟩ ?_
      exact ⟨vbool_eq (by exact (prime_yes (k := k) (by omega) hno).symm), Ext.of_below hB⟩
theorem bday_ret (S W : Int) (ka : Option Addr) (kn kc : Nat) (da : Option Addr) (dn dc : Nat) (n : Int) (w : World) (hdn : dn ≤ 2097152) : Ret Try.prog 21 [.agg ⟨[vint S, vint W, .slice ka kn kc, .slice da dn dc]⟩, vint n] w (fun v w' => v = .bool (decide (0 ≤ n) && decide (n ≤ (dn : Int) - 1)) ∧ Ext w w') := by
  have hB := Below.refl w.heap.size w
  have hsz : w.heap.size ≤ w.heap.size := Nat.le_refl _
  refine ret_of_runs (args := [_, _]) Try.func21 rfl (Nat.le_of_ble_eq_true rfl) (by kernel_rfl) ?_
  refine r_seq ?_
  refine r_region' ?_
  refine l_o (o_box rfl rfl rfl ?_)
  intro b1 w1 hzl1 hzr1 _ hb1 hE1
  have hbs_b1 : w.heap.size ≤ b1 := Nat.le_trans hsz hzl1
  replace hB := below_ext hB hE1 hsz
  replace hsz := Nat.le_trans hsz hE1.size
  refine l_q (q_assign (v := .bool _) rfl rfl) ?_
  refine l_nil ?_
  refine r_forget [(1, .int _ _), (2, .pointer _)] ⟨rfl, rfl, trivial⟩ (fun e2 => ?_)
  refine r_seq ?_
  refine r_region' ?_
  refine l_q (q_move (v := .int _ _) rfl rfl) ?_
  refine l_q (q_fieldAddr (o' := 3) rfl fld41_3 rfl) ?_
  refine l_q (q_load Try.isAgg26 rfl ((hb1.has (o := 3) rfl)) rfl) ?_
  refine l_q (q_len rfl Try.underlying26 rfl rfl) ?_
  refine l_q (q_sub rfl rfl (by omega) rfl) ?_
  refine l_o (o_call Try.call36 rfl (cwithin_ret _ _ _ _) rfl ?_)
  rintro _ w3 ⟨rfl, rfl⟩
  refine l_q (q_assign (v := .bool _) rfl rfl) ?_
  refine l_nil ?_
  refine r_forget [(4, .bool _)] ⟨rfl, trivial⟩ (fun e4 => ?_)
  refine r_ret_ (vs := [.bool _]) rfl Try.func21 rfl (.nil _) ⟨rfl, trivial⟩ ?_
  exact ⟨rfl, Ext.of_below hB⟩
theorem bown_ret (S W : Int) (ka : Option Addr) (kn kc : Nat) (da : Option Addr) (dn dc : Nat) (n : Int) (w : World) (hkn : kn ≤ 2097152) : Ret Try.prog 46 [.agg ⟨[vint S, vint W, .slice ka kn kc, .slice da dn dc]⟩, vint n] w (fun v w' => v = .bool (decide (0 ≤ n) && decide (n ≤ (kn : Int) - 1)) ∧ Ext w w') := by
  have hB := Below.refl w.heap.size w
  have hsz : w.heap.size ≤ w.heap.size := Nat.le_refl _
  refine ret_of_runs (args := [_, _]) Try.func46 rfl (Nat.le_of_ble_eq_true rfl) (by kernel_rfl) ?_
  refine r_seq ?_
  refine r_region' ?_
  refine l_o (o_box rfl rfl rfl ?_)
  intro b1 w1 hzl1 hzr1 _ hb1 hE1
  have hbs_b1 : w.heap.size ≤ b1 := Nat.le_trans hsz hzl1
  replace hB := below_ext hB hE1 hsz
  replace hsz := Nat.le_trans hsz hE1.size
  refine l_q (q_assign (v := .bool _) rfl rfl) ?_
  refine l_nil ?_
  refine r_forget [(1, .int _ _), (2, .pointer _)] ⟨rfl, rfl, trivial⟩ (fun e2 => ?_)
  refine r_seq ?_
  refine r_region' ?_
  refine l_q (q_move (v := .int _ _) rfl rfl) ?_
  refine l_q (q_fieldAddr (o' := 2) rfl fld41_2 rfl) ?_
  refine l_q (q_load Try.isAgg39 rfl ((hb1.has (o := 2) rfl)) rfl) ?_
  refine l_q (q_len rfl Try.underlying39 rfl rfl) ?_
  refine l_q (q_sub rfl rfl (by omega) rfl) ?_
  refine l_o (o_call Try.call36 rfl (cwithin_ret _ _ _ _) rfl ?_)
  rintro _ w3 ⟨rfl, rfl⟩
  refine l_q (q_assign (v := .bool _) rfl rfl) ?_
  refine l_nil ?_
  refine r_forget [(4, .bool _)] ⟨rfl, trivial⟩ (fun e4 => ?_)
  refine r_ret_ (vs := [.bool _]) rfl Try.func46 rfl (.nil _) ⟨rfl, trivial⟩ ?_
  exact ⟨rfl, Ext.of_below hB⟩
theorem bkey_ret (S W : Int) (ka : Option Addr) (kn kc : Nat) (da : Option Addr) (dn dc : Nat) (mu ad st : Int) (w : World) (hS : 13 ≤ S ∧ S ≤ 41) : Ret Try.prog 45 [.agg ⟨[vint S, vint W, .slice ka kn kc, .slice da dn dc]⟩, .agg ⟨[vint mu, vint ad, vint st]⟩] w (fun v w' => v = .bool (keyOk S mu ad st) ∧ Ext w w') := by
  have hB := Below.refl w.heap.size w
  have hsz : w.heap.size ≤ w.heap.size := Nat.le_refl _
  refine ret_of_runs (args := [_, _]) Try.func45 rfl (Nat.le_of_ble_eq_true rfl) (by kernel_rfl) ?_
  refine r_seq ?_
  refine r_region' ?_
  refine l_o (o_box rfl rfl rfl ?_)
  intro b1 w1 hzl1 hzr1 _ hb1 hE1
  have hbs_b1 : w.heap.size ≤ b1 := Nat.le_trans hsz hzl1
  replace hB := below_ext hB hE1 hsz
  replace hsz := Nat.le_trans hsz hE1.size
  refine l_o (o_box rfl rfl rfl ?_)
  intro b2 w2 hzl2 hzr2 _ hb2 hE2
  have hbs_b2 : w.heap.size ≤ b2 := Nat.le_trans hsz hzl2
  replace hB := below_ext hB hE2 hsz
  replace hb1 := hb1.ext hE2
  replace hsz := Nat.le_trans hsz hE2.size
  refine l_q (q_assign (v := .bool _) rfl rfl) ?_
  refine l_nil ?_
  refine r_forget [(2, .pointer _), (3, .pointer _)] ⟨rfl, rfl, trivial⟩ (fun e3 => ?_)
  refine r_seq ?_
  refine r_region' ?_
  refine l_q (q_fieldAddr (o' := 0) rfl fld54_0 rfl) ?_
  refine l_q (q_load Try.isAgg3 rfl ((hb2.has (o := 0) rfl)) rfl) ?_
  refine l_q (q_fieldAddr (o' := 0) rfl fld41_0 rfl) ?_
  refine l_q (q_load Try.isAgg3 rfl ((hb1.has (o := 0) rfl)) rfl) ?_
  refine l_q (q_sub rfl rfl (by omega) rfl) ?_
  refine l_o (o_call Try.call36 rfl (cwithin_ret _ _ _ _) rfl ?_)
  rintro _ w4 ⟨rfl, rfl⟩
  refine l_q (q_move (v := .bool _) rfl rfl) ?_
  refine l_part 11 rfl (fun hc5 => ?_) (fun hc5 => ?_)
  · skip
    try simp only [decide_eq_true_eq, decide_eq_false_iff_not, Bool.not_eq_true', Bool.not_eq_false', Bool.not_not, Bool.not_true, Bool.not_false, Bool.not_eq_true, Bool.not_eq_false, Int.not_lt, Int.not_le, Bool.and_eq_true, Bool.or_eq_true, Bool.and_eq_false_iff, Bool.or_eq_false_iff] at hc5
    have g1 := hc5
    refine l_q (q_load_agg (n := 4) Try.isAgg41 Try.sizeOf41 rfl ((hb1.cells' (cs' := [_, _, _, _]) 0 4 rfl)) rfl rfl) ?_
    refine l_q (q_fieldAddr (o' := 1) rfl fld54_1 rfl) ?_
    refine l_q (q_load Try.isAgg3 rfl ((hb2.has (o := 1) rfl)) rfl) ?_
    refine l_o (o_call Try.call23 rfl (bplain_ret S W ka kn kc da dn dc ad _ hS) rfl ?_)
    rintro _ w6 ⟨rfl, hE6⟩
    replace hB := below_ext hB hE6 hsz
    replace hb1 := hb1.ext hE6
    replace hb2 := hb2.ext hE6
    replace hsz := Nat.le_trans hsz hE6.size
    refine l_q (q_pick_t (v := .bool _) rfl rfl rfl) ?_
    refine l_q (q_move (v := .bool _) rfl rfl) ?_
    refine l_part 17 rfl (fun hc7 => ?_) (fun hc7 => ?_)
    · skip
      try simp only [decide_eq_true_eq, decide_eq_false_iff_not, Bool.not_eq_true', Bool.not_eq_false', Bool.not_not, Bool.not_true, Bool.not_false, Bool.not_eq_true, Bool.not_eq_false, Int.not_lt, Int.not_le, Bool.and_eq_true, Bool.or_eq_true, Bool.and_eq_false_iff, Bool.or_eq_false_iff] at hc7
      have g2 := hc7
      refine l_q (q_load_agg (n := 4) Try.isAgg41 Try.sizeOf41 rfl ((hb1.cells' (cs' := [_, _, _, _]) 0 4 rfl)) rfl rfl) ?_
      refine l_q (q_fieldAddr (o' := 2) rfl fld54_2 rfl) ?_
      refine l_q (q_load Try.isAgg3 rfl ((hb2.has (o := 2) rfl)) rfl) ?_
      refine l_o (o_call Try.call23 rfl (bplain_ret S W ka kn kc da dn dc st _ hS) rfl ?_)
      rintro _ w8 ⟨rfl, hE8⟩
      replace hB := below_ext hB hE8 hsz
      replace hb1 := hb1.ext hE8
      replace hb2 := hb2.ext hE8
      replace hsz := Nat.le_trans hsz hE8.size
      refine l_q (q_pick_t (v := .bool _) rfl rfl rfl) ?_
      refine l_q (q_assign (v := .bool _) rfl rfl) ?_
      refine l_nil ?_
      refine r_forget [(4, .bool _)] ⟨rfl, trivial⟩ (fun e9 => ?_)
      refine r_ret_ (vs := [.bool _]) rfl Try.func45 rfl (.nil _) ⟨rfl, trivial⟩ ?_
      exact ⟨vbool_eq (by unfold keyOk inS; simp_all <;> omega), Ext.of_below hB⟩
    · skip
      try simp only [decide_eq_true_eq, decide_eq_false_iff_not, Bool.not_eq_true', Bool.not_eq_false', Bool.not_not, Bool.not_true, Bool.not_false, Bool.not_eq_true, Bool.not_eq_false, Int.not_lt, Int.not_le, Bool.and_eq_true, Bool.or_eq_true, Bool.and_eq_false_iff, Bool.or_eq_false_iff] at hc7
      have g2 := hc7
      refine l_q (q_skip rfl) ?_
      refine l_q (q_skip rfl) ?_
      refine l_q (q_skip rfl) ?_
      refine l_q (q_skip rfl) ?_
      refine l_q (q_pick_f (v := .bool _) rfl rfl rfl) ?_
      refine l_q (q_assign (v := .bool _) rfl rfl) ?_
      refine l_nil ?_
      refine r_forget [(4, .bool _)] ⟨rfl, trivial⟩ (fun e10 => ?_)
      refine r_ret_ (vs := [.bool _]) rfl Try.func45 rfl (.nil _) ⟨rfl, trivial⟩ ?_
      exact ⟨vbool_eq (by unfold keyOk inS; simp_all <;> omega), Ext.of_below hB⟩
  · skip
    try simp only [decide_eq_true_eq, decide_eq_false_iff_not, Bool.not_eq_true', Bool.not_eq_false', Bool.not_not, Bool.not_true, Bool.not_false, Bool.not_eq_true, Bool.not_eq_false, Int.not_lt, Int.not_le, Bool.and_eq_true, Bool.or_eq_true, Bool.and_eq_false_iff, Bool.or_eq_false_iff] at hc5
    have g1 := hc5
    refine l_q (q_skip rfl) ?_
    refine l_q (q_skip rfl) ?_
    refine l_q (q_skip rfl) ?_
    refine l_q (q_skip rfl) ?_
    refine l_q (q_pick_f (v := .bool _) rfl rfl rfl) ?_
    refine l_q (q_move (v := .bool _) rfl rfl) ?_
    refine l_q (q_skip rfl) ?_
    refine l_q (q_skip rfl) ?_
    refine l_q (q_skip rfl) ?_
    refine l_q (q_skip rfl) ?_
    refine l_q (q_pick_f (v := .bool _) rfl rfl rfl) ?_
    refine l_q (q_assign (v := .bool _) rfl rfl) ?_
    refine l_nil ?_
    refine r_forget [(4, .bool _)] ⟨rfl, trivial⟩ (fun e11 => ?_)
    refine r_ret_ (vs := [.bool _]) rfl Try.func45 rfl (.nil _) ⟨rfl, trivial⟩ ?_
    exact ⟨vbool_eq (by unfold keyOk inS; simp_all <;> omega), Ext.of_below hB⟩
theorem thin4_ret (S W : Int) (ka : Option Addr) (kn kc : Nat) (da : Option Addr) (dn dc : Nat) (w : World) (hkn : kn ≤ 2097152) (hdn : dn ≤ 2097152) : Ret Try.prog 6 [.agg ⟨[vint S, vint W, .slice ka kn kc, .slice da dn dc]⟩] w (fun v w' => v = .bool (decide ((kn : Int) ≤ 8) && decide ((dn : Int) ≤ 11)) ∧ Ext w w') := by
  have hB := Below.refl w.heap.size w
  have hsz : w.heap.size ≤ w.heap.size := Nat.le_refl _
  refine ret_of_runs (args := [_]) Try.func6 rfl (Nat.le_of_ble_eq_true rfl) (by kernel_rfl) ?_
  refine r_seq ?_
  refine r_region' ?_
  refine l_o (o_box rfl rfl rfl ?_)
  intro b1 w1 hzl1 hzr1 _ hb1 hE1
  have hbs_b1 : w.heap.size ≤ b1 := Nat.le_trans hsz hzl1
  replace hB := below_ext hB hE1 hsz
  replace hsz := Nat.le_trans hsz hE1.size
  refine l_q (q_assign (v := .bool _) rfl rfl) ?_
  refine l_nil ?_
  refine r_forget [(1, .pointer _)] ⟨rfl, trivial⟩ (fun e2 => ?_)
  refine r_seq ?_
  refine r_region' ?_
  refine l_q (q_fieldAddr (o' := 2) rfl fld28_2 rfl) ?_
  refine l_q (q_load Try.isAgg25 rfl ((hb1.has (o := 2) rfl)) rfl) ?_
  refine l_q (q_len rfl Try.underlying25 rfl rfl) ?_
  refine l_q (q_leq rfl rfl rfl) ?_
  refine l_q (q_move (v := .bool _) rfl rfl) ?_
  refine l_part 7 rfl (fun hc3 => ?_) (fun hc3 => ?_)
  · skip
    try simp only [decide_eq_true_eq, decide_eq_false_iff_not, Bool.not_eq_true', Bool.not_eq_false', Bool.not_not, Bool.not_true, Bool.not_false, Bool.not_eq_true, Bool.not_eq_false, Int.not_lt, Int.not_le, Bool.and_eq_true, Bool.or_eq_true, Bool.and_eq_false_iff, Bool.or_eq_false_iff] at hc3
    refine l_q (q_fieldAddr (o' := 3) rfl fld28_3 rfl) ?_
    refine l_q (q_load Try.isAgg26 rfl ((hb1.has (o := 3) rfl)) rfl) ?_
    refine l_q (q_len rfl Try.underlying26 rfl rfl) ?_
    refine l_q (q_leq rfl rfl rfl) ?_
    refine l_q (q_pick_t (v := .bool _) rfl rfl rfl) ?_
    refine l_q (q_assign (v := .bool _) rfl rfl) ?_
    refine l_nil ?_
    refine r_forget [(2, .bool _)] ⟨rfl, trivial⟩ (fun e4 => ?_)
    refine r_ret_ (vs := [.bool _]) rfl Try.func6 rfl (.nil _) ⟨rfl, trivial⟩ ?_
    exact ⟨vbool_eq (by simp_all <;> omega), Ext.of_below hB⟩
  · skip
    try simp only [decide_eq_true_eq, decide_eq_false_iff_not, Bool.not_eq_true', Bool.not_eq_false', Bool.not_not, Bool.not_true, Bool.not_false, Bool.not_eq_true, Bool.not_eq_false, Int.not_lt, Int.not_le, Bool.and_eq_true, Bool.or_eq_true, Bool.and_eq_false_iff, Bool.or_eq_false_iff] at hc3
    refine l_q (q_skip rfl) ?_
    refine l_q (q_skip rfl) ?_
    refine l_q (q_skip rfl) ?_
    refine l_q (q_skip rfl) ?_
    refine l_q (q_pick_f (v := .bool _) rfl rfl rfl) ?_
    refine l_q (q_assign (v := .bool _) rfl rfl) ?_
    refine l_nil ?_
    refine r_forget [(2, .bool _)] ⟨rfl, trivial⟩ (fun e5 => ?_)
    refine r_ret_ (vs := [.bool _]) rfl Try.func6 rfl (.nil _) ⟨rfl, trivial⟩ ?_
    exact ⟨vbool_eq (by simp_all <;> omega), Ext.of_below hB⟩
theorem rplain_ret (S W : Int) (ka : Option Addr) (kn kc : Nat) (da : Option Addr) (dn dc : Nat) (xa : Option Addr) (xc : Nat) (xs : List Int) (w : World) (hS : -9223372036854775807 ≤ S ∧ S ≤ 9223372036854775807) (hx : Row w xa xs.length xc 1 (xs.map vint)) (hxn : xs.length ≤ 2097152) : Ret Try.prog 8 [.agg ⟨[vint S, vint W, .slice ka kn kc, .slice da dn dc]⟩, .slice xa xs.length xc] w (fun v w' => v = .bool (xs.all (inS S)) ∧ Ext w w') := by
  have hB := Below.refl w.heap.size w
  have hsz : w.heap.size ≤ w.heap.size := Nat.le_refl _
  refine ret_of_runs (args := [_, _]) Try.func8 rfl (Nat.le_of_ble_eq_true rfl) (by kernel_rfl) ?_
  refine r_seq ?_
  refine r_region' ?_
  refine l_o (o_box rfl rfl rfl ?_)
  intro b1 w1 hzl1 hzr1 _ hb1 hE1
  have hbs_b1 : w.heap.size ≤ b1 := Nat.le_trans hsz hzl1
  replace hB := below_ext hB hE1 hsz
  replace hsz := Nat.le_trans hsz hE1.size
  refine l_q (q_assign (v := .bool _) rfl rfl) ?_
  refine l_nil ?_
  refine r_forget [(1, .slice _ _ _), (2, .pointer _)] ⟨rfl, rfl, trivial⟩ (fun e2 => ?_)
  refine r_seq ?_
  refine r_seq ?_
  refine r_region' ?_
  refine l_q (q_assign (v := .int _ _) rfl rfl) ?_
  refine l_nil ?_
  refine r_block ?_
  refine r_rounds (α := Nat) (fun k e wl => Knows e [(1, .slice xa xs.length xc), (2, ptr b1 0), (5, vint (k : Int))] ∧ (k ≤ xs.length) ∧ (∀ j, j < k → inS S (xs.getD j 0) = true) ∧ (Blk wl b1 [vint S, vint W, .slice ka kn kc, .slice da dn dc]) ∧ (w.heap.size ≤ wl.heap.size) ∧ (Below w.heap.size w wl)) (fun k => xs.length - k) 0 ?_ ?_
  · skip
    exact ⟨⟨rfl, rfl, rfl, trivial⟩, (Nat.zero_le _), (fun j hj => by omega), hb1, hsz, hB⟩
  · skip
    rintro k el3 wl3 ⟨hkn, hkk, hq, hb1, hsz, hB⟩ ih3
    obtain ⟨e3, rfl⟩ := knows_env hkn
    refine r_seq ?_
    refine r_seq ?_
    refine r_region' ?_
    refine l_q (q_move (v := .int _ _) rfl rfl) ?_
    refine l_q (q_move (v := .slice _ _ _) rfl rfl) ?_
    refine l_q (q_len rfl Try.underlying26 rfl rfl) ?_
    refine l_q (q_lss rfl rfl rfl) ?_
    refine l_nil ?_
    refine r_forget [(1, .slice _ _ _), (2, .pointer _), (5, .int _ _), (9, .bool _)] ⟨rfl, rfl, rfl, rfl, trivial⟩ (fun e4 => ?_)
    refine r_cond rfl (fun hc5 => ?_) (fun hc5 => ?_)
    · skip
      try simp only [decide_eq_true_eq, decide_eq_false_iff_not, Bool.not_eq_true', Bool.not_eq_false', Bool.not_not, Bool.not_true, Bool.not_false, Bool.not_eq_true, Bool.not_eq_false, Int.not_lt, Int.not_le, Bool.and_eq_true, Bool.or_eq_true, Bool.and_eq_false_iff, Bool.or_eq_false_iff] at hc5
      refine r_skip ?_
      refine r_seq ?_
      refine r_block ?_
      refine r_seq ?_
      refine r_draw ext_refl' ext_trans' [0, 1, 2, 3, 4, 5, 6, 7, 8] [7] 4 (by kernel_rfl) (by kernel_rfl) ?_
      intro w6 _ hE6
      replace hB := below_ext hB hE6 hsz
      replace hb1 := hb1.ext hE6
      replace hsz := Nat.le_trans hsz hE6.size
      refine m_q rfl rfl (fun w' hC' => q_move (v := .slice _ _ _) rfl rfl) ?_
      refine m_q rfl rfl (fun w' hC' => q_move (v := .int _ _) rfl rfl) ?_
      obtain ⟨b7, o7, ha7, hh7⟩ := (hx.below hB).at1 k ((xs).getD k 0) (getD_some (by omega))
      refine m_q rfl rfl (fun w' hC' => q_indexAddr1 Try.underlying26 Try.sizeOf3 rfl ha7 rfl (by omega) rfl) ?_
      refine m_q rfl rfl (fun w' hC' => q_load Try.isAgg3 rfl ((hh7.ext hC')) rfl) ?_
      refine m_q rfl rfl (fun w' hC' => q_fieldAddr (o' := 0) rfl fld28_0 rfl) ?_
      refine m_q rfl rfl (fun w' hC' => q_load Try.isAgg3 rfl (((hb1.has (o := 0) rfl).ext hC')) rfl) ?_
      refine m_q rfl rfl (fun w' hC' => q_sub rfl rfl (by omega) rfl) ?_
      refine m_o rfl rfl (o_call Try.call17 rfl (in4_ret _ _ _ _) rfl ?_)
      rintro _ w8 ⟨rfl, rfl⟩
      refine ⟨Ext.refl _, ?_⟩
      refine m_q rfl rfl (fun w' hC' => q_not rfl rfl) ?_
      refine m_nil ?_
      refine r_forget [(1, .slice _ _ _), (2, .pointer _), (5, .int _ _), (20, .bool _)] ⟨rfl, rfl, rfl, rfl, trivial⟩ (fun e9 => ?_)
      refine r_cond rfl (fun hc10 => ?_) (fun hc10 => ?_)
      · skip
        try simp only [decide_eq_true_eq, decide_eq_false_iff_not, Bool.not_eq_true', Bool.not_eq_false', Bool.not_not, Bool.not_true, Bool.not_false, Bool.not_eq_true, Bool.not_eq_false, Int.not_lt, Int.not_le, Bool.and_eq_true, Bool.or_eq_true, Bool.and_eq_false_iff, Bool.or_eq_false_iff] at hc10
        refine r_seq ?_
        refine r_region' ?_
        refine l_q (q_assign (v := .bool _) rfl rfl) ?_
        refine l_nil ?_
        refine r_forget [(4, .bool _)] ⟨rfl, trivial⟩ (fun e11 => ?_)
        refine r_ret_ (vs := [.bool _]) rfl Try.func8 rfl (.nil _) ⟨rfl, trivial⟩ ?_
        exact ⟨vbool_eq (all_bad (d := 0) (k := k) (by omega) (by unfold inS; simp_all <;> omega)).symm, Ext.of_below hB⟩
      · skip
        try simp only [decide_eq_true_eq, decide_eq_false_iff_not, Bool.not_eq_true', Bool.not_eq_false', Bool.not_not, Bool.not_true, Bool.not_false, Bool.not_eq_true, Bool.not_eq_false, Int.not_lt, Int.not_le, Bool.and_eq_true, Bool.or_eq_true, Bool.and_eq_false_iff, Bool.or_eq_false_iff] at hc10
        refine r_skip ?_
        refine r_inBlock ?_
        refine r_region' ?_
        refine l_q (q_move (v := .int _ _) rfl rfl) ?_
        refine l_q (q_add rfl rfl (by omega) rfl) ?_
        refine l_q (q_assign (v := .int _ _) rfl rfl) ?_
        refine l_nil ?_
        refine r_forget [(1, .slice _ _ _), (2, .pointer _), (5, .int _ _)] ⟨rfl, rfl, rfl, trivial⟩ (fun e12 => ?_)
        exact ih3 (k + 1) _ _ ⟨⟨rfl, rfl, by first | rfl | exact vint_eq (by omega), trivial⟩, (by omega), (fun j hj => by rcases Nat.lt_succ_iff_lt_or_eq.1 hj with h | h; exact hq j h; subst h; unfold inS; simp_all), hb1, hsz, hB⟩ (by first | omega | (dsimp only; omega))
    · skip
      try simp only [decide_eq_true_eq, decide_eq_false_iff_not, Bool.not_eq_true', Bool.not_eq_false', Bool.not_not, Bool.not_true, Bool.not_false, Bool.not_eq_true, Bool.not_eq_false, Int.not_lt, Int.not_le, Bool.and_eq_true, Bool.or_eq_true, Bool.and_eq_false_iff, Bool.or_eq_false_iff] at hc5
      refine r_exit rfl ?_
      refine r_seq ?_
      refine r_region' ?_
      refine l_q (q_assign (v := .bool _) rfl rfl) ?_
      refine l_nil ?_
      refine r_forget [(4, .bool _)] ⟨rfl, trivial⟩ (fun e13 => ?_)
      refine r_ret_ (vs := [.bool _]) rfl Try.func8 rfl (.nil _) ⟨rfl, trivial⟩ ?_
      exact ⟨vbool_eq (all_getD (d := 0) (fun j hj => hq j (by omega))).symm, Ext.of_below hB⟩
theorem indicator_ret (S W : Int) (ka : Option Addr) (kn kc : Nat) (da : Option Addr) (dc : Nat) (ds : List Int) (d : Nat) (w : World) (hda : Row w da ds.length dc 1 (ds.map vint)) (hdn : ds.length ≤ 8) (hdr : ∀ x ∈ ds, 0 ≤ x ∧ x ≤ 4) (hd : d < ds.length) (hkn : 0 < kn ∧ kn ≤ 5) : Ret Try.prog 24 [.agg ⟨[vint S, vint W, .slice ka kn kc, .slice da ds.length dc]⟩, vint (d : Int)] w (fun v w' => v = vint ((ds.getD d 0 + (d : Int)) % (kn : Int)) ∧ Ext w w') := by
  have hdd := hdr _ (getD_lt (d := 0) hd)
  have hB := Below.refl w.heap.size w
  have hsz : w.heap.size ≤ w.heap.size := Nat.le_refl _
  refine ret_of_runs (args := [_, _]) Try.func24 rfl (Nat.le_of_ble_eq_true rfl) (by kernel_rfl) ?_
  refine r_seq ?_
  refine r_region' ?_
  refine l_o (o_box rfl rfl rfl ?_)
  intro b1 w1 hzl1 hzr1 _ hb1 hE1
  have hbs_b1 : w.heap.size ≤ b1 := Nat.le_trans hsz hzl1
  replace hB := below_ext hB hE1 hsz
  replace hsz := Nat.le_trans hsz hE1.size
  refine l_q (q_assign (v := .int _ _) rfl rfl) ?_
  refine l_nil ?_
  refine r_forget [(1, .int _ _), (2, .pointer _)] ⟨rfl, rfl, trivial⟩ (fun e2 => ?_)
  refine r_seq ?_
  refine r_draw ext_refl' ext_trans' [0, 1, 2, 3, 4, 5, 6, 7, 8, 9, 10, 11] [] 6 (by kernel_rfl) (by kernel_rfl) ?_
  intro w3 _ hE3
  replace hB := below_ext hB hE3 hsz
  replace hb1 := hb1.ext hE3
  replace hsz := Nat.le_trans hsz hE3.size
  refine m_q rfl rfl (fun w' hC' => q_fieldAddr (o' := 3) rfl fld41_3 rfl) ?_
  refine m_q rfl rfl (fun w' hC' => q_load Try.isAgg26 rfl (((hb1.has (o := 3) rfl).ext hC')) rfl) ?_
  refine m_q rfl rfl (fun w' hC' => q_move (v := .int _ _) rfl rfl) ?_
  obtain ⟨b4, o4, ha4, hh4⟩ := (hda.below hB).at1 d ((ds).getD d 0) (getD_some (by omega))
  refine m_q rfl rfl (fun w' hC' => q_indexAddr1 Try.underlying26 Try.sizeOf3 rfl ha4 rfl (by omega) rfl) ?_
  refine m_q rfl rfl (fun w' hC' => q_load Try.isAgg3 rfl ((hh4.ext hC')) rfl) ?_
  refine m_q rfl rfl (fun w' hC' => q_move (v := .int _ _) rfl rfl) ?_
  refine m_q rfl rfl (fun w' hC' => q_add rfl rfl (by omega) rfl) ?_
  refine m_q rfl rfl (fun w' hC' => q_fieldAddr (o' := 2) rfl fld41_2 rfl) ?_
  refine m_q rfl rfl (fun w' hC' => q_load Try.isAgg39 rfl (((hb1.has (o := 2) rfl).ext hC')) rfl) ?_
  refine m_q rfl rfl (fun w' hC' => q_len rfl Try.underlying39 rfl rfl) ?_
  refine m_q rfl rfl (fun w' hC' => q_rem rfl rfl (by omega) rfl) ?_
  refine m_q rfl rfl (fun w' hC' => q_assign (v := .int _ _) rfl rfl) ?_
  refine m_nil ?_
  refine r_forget [(4, .int _ _)] ⟨rfl, trivial⟩ (fun e5 => ?_)
  refine r_ret_ (vs := [.int _ _]) rfl Try.func24 rfl (.nil _) ⟨rfl, trivial⟩ ?_
  exact ⟨rfl, Ext.of_below hB⟩
theorem rprime4_ret (n : Int) (w : World) : Ret Try.prog 16 [vint n] w (fun v w' => v = .bool (([13, 17, 19, 23, 29, 31, 37, 41] : List Int).contains n) ∧ Ext w w') := by
  have hB := Below.refl w.heap.size w
  have hsz : w.heap.size ≤ w.heap.size := Nat.le_refl _
  refine ret_of_runs (args := [_]) Try.func16 rfl (Nat.le_of_ble_eq_true rfl) (by kernel_rfl) ?_
  refine r_seq ?_
  refine r_region' ?_
  refine l_q (q_assign (v := .bool _) rfl rfl) ?_
  refine l_nil ?_
  refine r_forget [(0, .int _ _)] ⟨rfl, trivial⟩ (fun e1 => ?_)
  refine r_seq ?_
  refine r_region' ?_
  refine l_q (q_build (v := .agg ⟨[vint 13, vint 17, vint 19, vint 23, vint 29, vint 31, vint 37, vint 41]⟩) (fun w => by kernel_rfl) rfl) ?_
  refine l_o (o_alloc Try.zeroValue78 rfl rfl ?_)
  intro b2 w2 hzl2 hzr2 _ hb2 hE2
  have hbs_b2 : w.heap.size ≤ b2 := Nat.le_trans hsz hzl2
  replace hB := below_ext hB hE2 hsz
  replace hsz := Nat.le_trans hsz hE2.size
  refine l_o (o_store (vs := [vint 13, vint 17, vint 19, vint 23, vint 29, vint 31, vint 37, vint 41]) (cs' := [vint 13, vint 17, vint 19, vint 23, vint 29, vint 31, vint 37, vint 41]) Try.sizeOf78 rfl rfl rfl rfl hb2 (Nat.le_of_ble_eq_true rfl) rfl rfl ?_)
  intro w3 hz3 hb2 hG3
  replace hB := below_upd hB hG3 hsz (by omega)
  replace hsz : w.heap.size ≤ w3.heap.size := by rw [hz3]; exact hsz
  refine l_nil ?_
  refine r_forget [(0, .int _ _), (3, .pointer _)] ⟨rfl, rfl, trivial⟩ (fun e4 => ?_)
  refine r_seq ?_
  refine r_seq ?_
  replace hb2 : Blk w3 b2 (([13, 17, 19, 23, 29, 31, 37, 41] : List Int).map vint) := hb2
  refine r_region' ?_
  refine l_q (q_assign (v := .int _ _) rfl rfl) ?_
  refine l_nil ?_
  refine r_block ?_
  refine r_rounds (α := Nat) (fun k e wl => Knows e [(0, vint n), (3, ptr b2 0), (4, vint (k : Int))] ∧ (k ≤ 8) ∧ (∀ j, j < k → ¬ ([13, 17, 19, 23, 29, 31, 37, 41] : List Int).getD j 0 = n) ∧ (k ≤ 8) ∧ (Blk wl b2 (([13, 17, 19, 23, 29, 31, 37, 41] : List Int).map vint)) ∧ (w.heap.size ≤ wl.heap.size) ∧ (Below w.heap.size w wl)) (fun k => 8 - k) 0 ?_ ?_
  · skip
    exact ⟨⟨rfl, rfl, rfl, trivial⟩, (Nat.zero_le _), (fun j hj => by omega), (by omega), hb2, hsz, hB⟩
  · skip
    rintro k el5 wl5 ⟨hkn, hkk, hq, hk8, hb2, hsz, hB⟩ ih5
    obtain ⟨e5, rfl⟩ := knows_env hkn
    refine r_seq ?_
    refine r_seq ?_
    refine r_region' ?_
    refine l_q (q_move (v := .int _ _) rfl rfl) ?_
    refine l_q (q_lss rfl rfl rfl) ?_
    refine l_nil ?_
    refine r_forget [(0, .int _ _), (3, .pointer _), (4, .int _ _), (7, .bool _)] ⟨rfl, rfl, rfl, rfl, trivial⟩ (fun e6 => ?_)
    refine r_cond rfl (fun hc7 => ?_) (fun hc7 => ?_)
    · skip
      try simp only [decide_eq_true_eq, decide_eq_false_iff_not, Bool.not_eq_true', Bool.not_eq_false', Bool.not_not, Bool.not_true, Bool.not_false, Bool.not_eq_true, Bool.not_eq_false, Int.not_lt, Int.not_le, Bool.and_eq_true, Bool.or_eq_true, Bool.and_eq_false_iff, Bool.or_eq_false_iff] at hc7
      refine r_skip ?_
      refine r_seq ?_
      refine r_block ?_
      refine r_seq ?_
      refine r_region' ?_
      refine l_q (q_move (v := .int _ _) rfl rfl) ?_
      refine l_q ((q_indexAddr_arr1 Try.underlying78 Try.sizeOf3 rfl rfl (by omega) rfl).cast (ptr0 _ _)) ?_
      refine l_q (q_load Try.isAgg3 rfl ((hb2.has (o := k) (imap (by simp; omega)))) rfl) ?_
      refine l_q (q_move (v := .int _ _) rfl rfl) ?_
      refine l_q (q_eql rfl rfl rfl) ?_
      refine l_nil ?_
      refine r_forget [(0, .int _ _), (3, .pointer _), (4, .int _ _), (14, .bool _)] ⟨rfl, rfl, rfl, rfl, trivial⟩ (fun e8 => ?_)
      refine r_cond rfl (fun hc9 => ?_) (fun hc9 => ?_)
      · skip
        try simp only [decide_eq_true_eq, decide_eq_false_iff_not, Bool.not_eq_true', Bool.not_eq_false', Bool.not_not, Bool.not_true, Bool.not_false, Bool.not_eq_true, Bool.not_eq_false, Int.not_lt, Int.not_le, Bool.and_eq_true, Bool.or_eq_true, Bool.and_eq_false_iff, Bool.or_eq_false_iff] at hc9
        have hpk := hc9
        refine r_seq ?_
        refine r_region' ?_
        refine l_q (q_assign (v := .bool _) rfl rfl) ?_
        refine l_nil ?_
        refine r_forget [(2, .bool _)] ⟨rfl, trivial⟩ (fun e10 => ?_)
        refine r_ret_ (vs := [.bool _]) rfl Try.func16 rfl (.nil _) ⟨rfl, trivial⟩ ?_
        exact ⟨vbool_eq (by symm; rw [List.contains_iff_mem]; rw [← hpk]; exact getD_lt (d := 0) (by simp; omega)), Ext.of_below hB⟩
      · skip
        try simp only [decide_eq_true_eq, decide_eq_false_iff_not, Bool.not_eq_true', Bool.not_eq_false', Bool.not_not, Bool.not_true, Bool.not_false, Bool.not_eq_true, Bool.not_eq_false, Int.not_lt, Int.not_le, Bool.and_eq_true, Bool.or_eq_true, Bool.and_eq_false_iff, Bool.or_eq_false_iff] at hc9
        refine r_skip ?_
        refine r_inBlock ?_
        refine r_region' ?_
        refine l_q (q_move (v := .int _ _) rfl rfl) ?_
        refine l_q (q_add rfl rfl (by omega) rfl) ?_
        refine l_q (q_assign (v := .int _ _) rfl rfl) ?_
        refine l_nil ?_
        refine r_forget [(0, .int _ _), (3, .pointer _), (4, .int _ _)] ⟨rfl, rfl, rfl, trivial⟩ (fun e11 => ?_)
        exact ih5 (k + 1) _ _ ⟨⟨rfl, rfl, by first | rfl | exact vint_eq (by omega), trivial⟩, (by omega), (fun j hj => by rcases Nat.lt_succ_iff_lt_or_eq.1 hj with h | h; exact hq j h; subst h; assumption), (by omega), hb2, hsz, hB⟩ (by first | omega | (dsimp only; omega))
    · skip
      try simp only [decide_eq_true_eq, decide_eq_false_iff_not, Bool.not_eq_true', Bool.not_eq_false', Bool.not_not, Bool.not_true, Bool.not_false, Bool.not_eq_true, Bool.not_eq_false, Int.not_lt, Int.not_le, Bool.and_eq_true, Bool.or_eq_true, Bool.and_eq_false_iff, Bool.or_eq_false_iff] at hc7
      refine r_exit rfl ?_
      refine r_seq ?_
      refine r_region' ?_
      refine l_q (q_assign (v := .bool _) rfl rfl) ?_
      refine l_nil ?_
      refine r_forget [(2, .bool _)] ⟨rfl, trivial⟩ (fun e12 => ?_)
      refine r_ret_ (vs := [.bool _]) rfl Try.func16 rfl (.nil _) ⟨rfl, trivial⟩ ?_
      exact ⟨vbool_eq (by symm; rw [← Bool.not_eq_true, List.contains_iff_mem]; intro hm; obtain ⟨j, hj, he⟩ := List.mem_iff_getElem.1 hm; exact hq j (by simp at hj; omega) (by rw [List.getD_eq_getElem?_getD, List.getElem?_eq_getElem hj]; exact he)), Ext.of_below hB⟩
end Go.Proofs.Ytfbjllabgkabkaa
