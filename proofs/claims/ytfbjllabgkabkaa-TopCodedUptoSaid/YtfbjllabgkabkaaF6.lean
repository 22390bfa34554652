/- Contracts. -/
import Derived.Test.YtfbjllabgkabkaaF5
set_option linter.unusedVariables false
set_option linter.unusedSimpArgs false
namespace Go.Proofs.Ytfbjllabgkabkaa
open Go Go.RowKit Go.Gv Go.Fl

theorem tup2 {x x' y y' : Value} (h : x = x') (h' : y = y') : Value.tuple ⟨[x, y]⟩ = .tuple ⟨[x', y']⟩ := by rw [h, h']
theorem tup3 {x x' y y' z z' : Value} (h : x = x') (h' : y = y') (h'' : z = z') : Value.tuple ⟨[x, y, z]⟩ = .tuple ⟨[x', y', z']⟩ := by rw [h, h', h'']
def thin (c : List Sg) (s : Sg) : Bool := (decide (c.length ≤ 9) && c.all (fun t => decide (t.length ≤ 9))) && decide (s.length ≤ 60)
theorem thin_bad {c : List Sg} {s : Sg} {k : Nat} (hk : k < c.length) (h : 9 < (c.getD k []).length) : thin c s = false := by
  unfold thin
  rw [Bool.and_eq_false_iff]; left
  rw [Bool.and_eq_false_iff]; right
  rw [List.all_eq_false]
  exact ⟨c.getD k [], getD_lt hk, by simp only [decide_eq_true_eq]; omega⟩
theorem thin_end {c : List Sg} {s : Sg} {k : Nat} (hk : k ≤ c.length) (h7 : k = c.length ∨ k = 10) (h : ∀ j, j < k → (c.getD j []).length ≤ 9) : thin c s = (decide ((c.length : Int) ≤ 9) && decide ((s.length : Int) ≤ 60)) := by
  unfold thin
  have h1 : decide ((s.length : Int) ≤ 60) = decide (s.length ≤ 60) := by rw [Bool.eq_iff_iff, decide_eq_true_eq, decide_eq_true_eq]; omega
  have h2 : decide ((c.length : Int) ≤ 9) = decide (c.length ≤ 9) := by rw [Bool.eq_iff_iff, decide_eq_true_eq, decide_eq_true_eq]; omega
  rw [h1, h2]
  by_cases h70 : c.length ≤ 9
  · have : k = c.length := by omega
    subst this
    rw [all_getD (d := []) (p := fun t => decide (t.length ≤ 9)) (fun j hj => by simpa using h j hj), Bool.and_true]
  · simp [h70]
def readyB (c : List Sg) (t : List Int) : Bool := ((thin c [] && decide (fault c = 0)) && decide ((t.length : Int) ≤ 5)) && isText c t
theorem fault_none {c : List Sg} (h6 : c.length ≤ 6) (h : c.length = 0 ∨ c.all letterOk = false) : fault c = 1 := by
  by_cases h0 : c.length = 0
  · exact fault_empty h0
  · rcases h with h | h
    · omega
    · rw [List.all_eq_false] at h
      obtain ⟨x, hx, hl⟩ := h
      obtain ⟨i, hi, rfl⟩ := List.mem_iff_getElem.1 hx
      refine fault_bad h6 hi (.inl ?_)
      rw [List.getD_eq_getElem?_getD, List.getElem?_eq_getElem hi]
      simpa using hl
theorem fault_all {c : List Sg} (h6 : c.length ≤ 6) (h0 : c.length ≠ 0) (h : c.all letterOk = true) (hd : ∀ j, j < c.length → distinctAt c j = true) : fault c = 0 :=
  fault_good h6 h0 (fun i hi => ⟨List.all_eq_true.1 h _ (getD_lt hi), hd i hi⟩)
def chk (l : List Sg) : Int := if l.all (fun s => decide ((s.length : Int) ≤ 40)) = true then (if l.all isSigns = true then 0 else 4) else 3
theorem letters_step {c : List Sg} {t : List Int} {k : Nat} (hk : k < t.length) : letters c (t.take k) ++ [c.getD (t.getD k 0).toNat []] = letters c (t.take (k + 1)) := by
  rw [take_succ_getD hk]; simp [letters]
def send (c : List Sg) (t : List Int) : Sg × Int := if ¬ fault c = 0 then ([], fault c) else if 5 < t.length then ([], 3) else if isText c t = true then (signs c t, 0) else ([], 2)

theorem fld58_0 (w : World) (b o : Nat) : (Instr.fieldAt 58 (ptr b o) 0).run Try.prog w = .ok (ptr b (o + 0)) w := by
  simp [Instr.fieldAt, run_underlying Try.underlying58, fieldPlace, Instr.sureAddr, Try.sizeOf22, Addr.add_lit]
theorem thin_ret (a : Option Addr) (cc : Nat) (c : List Sg) (s : Sg) (w : World) (hrow : Row w a c.length cc 1 (c.map vstr)) (hcn : c.length ≤ 2097152) (hs : s.length ≤ 2097152) : Ret Try.prog 4 [.agg ⟨[.slice a c.length cc]⟩, vstr s] w (fun v w' => v = .bool (thin c s) ∧ Ext w w') := by
  have hB := Below.refl w.heap.size w
  have hsz : w.heap.size ≤ w.heap.size := Nat.le_refl _
  refine ret_of_runs (args := [_, _]) Try.func4 rfl (Nat.le_of_ble_eq_true rfl) (by kernel_rfl) ?_
  refine r_seq ?_
  refine r_region' ?_
  refine l_o (o_box rfl rfl rfl ?_)
  intro b1 w1 hzl1 hzr1 _ hb1 hE1
  have hbs_b1 : w.heap.size ≤ b1 := Nat.le_trans hsz hzl1
  replace hB := below_ext hB hE1 hsz
  replace hsz := Nat.le_trans hsz hE1.size
  refine l_q (q_assign (v := .bool _) rfl rfl) ?_
  refine l_nil ?_
  refine r_forget [(1, .string _), (2, .pointer _)] ⟨rfl, rfl, trivial⟩ (fun e2 => ?_)
  refine r_seq ?_
  refine r_seq ?_
  refine r_region' ?_
  refine l_q (q_assign (v := .int _ _) rfl rfl) ?_
  refine l_nil ?_
  refine r_block ?_
  refine r_rounds (α := Nat) (fun k e wl => Knows e [(1, vstr s), (2, ptr b1 0), (5, vint (k : Int))] ∧ (k ≤ c.length) ∧ (k ≤ 10) ∧ (∀ j, j < k → (c.getD j []).length ≤ 9) ∧ (Blk wl b1 [.slice a c.length cc]) ∧ (w.heap.size ≤ wl.heap.size) ∧ (Below w.heap.size w wl)) (fun k => c.length - k) 0 ?_ ?_
  · skip
    exact ⟨⟨rfl, rfl, rfl, trivial⟩, (Nat.zero_le _), (by omega), (fun i hi => absurd hi (Nat.not_lt_zero _)), hb1, hsz, hB⟩
  · skip
    rintro k el3 wl3 ⟨hkn, hkk, hk10, hq, hb1, hsz, hB⟩ ih3
    obtain ⟨e3, rfl⟩ := knows_env hkn
    refine r_seq ?_
    refine r_seq ?_
    refine r_region' ?_
    refine l_q (q_move (v := .int _ _) rfl rfl) ?_
    refine l_q (q_fieldAddr (o' := 0) rfl fld24_0 rfl) ?_
    refine l_q (q_load Try.isAgg22 rfl ((hb1.has (o := 0) rfl)) rfl) ?_
    refine l_q (q_len rfl Try.underlying22 rfl rfl) ?_
    refine l_q (q_lss rfl rfl rfl) ?_
    refine l_q (q_move (v := .bool _) rfl rfl) ?_
    refine l_part 11 rfl (fun hc4 => ?_) (fun hc4 => ?_)
    · skip
      try simp only [decide_eq_true_eq, decide_eq_false_iff_not, Bool.not_eq_true', Bool.not_eq_false', Bool.not_not, Bool.not_true, Bool.not_false, Bool.not_eq_true, Bool.not_eq_false, Int.not_lt, Int.not_le, Bool.and_eq_true, Bool.or_eq_true, Bool.and_eq_false_iff, Bool.or_eq_false_iff] at hc4
      refine l_q (q_move (v := .int _ _) rfl rfl) ?_
      refine l_q (q_lss rfl rfl rfl) ?_
      refine l_q (q_pick_t (v := .bool _) rfl rfl rfl) ?_
      refine l_nil ?_
      refine r_forget [(1, .string _), (2, .pointer _), (5, .int _ _), (14, .bool _)] ⟨rfl, rfl, rfl, rfl, trivial⟩ (fun e5 => ?_)
      refine r_cond rfl (fun hc6 => ?_) (fun hc6 => ?_)
      · skip
        try simp only [decide_eq_true_eq, decide_eq_false_iff_not, Bool.not_eq_true', Bool.not_eq_false', Bool.not_not, Bool.not_true, Bool.not_false, Bool.not_eq_true, Bool.not_eq_false, Int.not_lt, Int.not_le, Bool.and_eq_true, Bool.or_eq_true, Bool.and_eq_false_iff, Bool.or_eq_false_iff] at hc6
        refine r_skip ?_
        refine r_seq ?_
        refine r_block ?_
        refine r_seq ?_
        refine r_region' ?_
        refine l_q (q_fieldAddr (o' := 0) rfl fld24_0 rfl) ?_
        refine l_q (q_load Try.isAgg22 rfl ((hb1.has (o := 0) rfl)) rfl) ?_
        refine l_q (q_move (v := .int _ _) rfl rfl) ?_
        obtain ⟨b7, o7, ha7, hh7⟩ := (hrow.below hB).at1 k ((c).getD k []) (getD_some (by omega))
        refine l_q (q_indexAddr1 Try.underlying22 Try.sizeOf9 rfl ha7 rfl (by omega) rfl) ?_
        refine l_q (q_load Try.isAgg9 rfl (hh7) rfl) ?_
        refine l_q (q_len_str rfl Try.underlying9 rfl rfl) ?_
        refine l_q (q_gtr rfl rfl rfl) ?_
        refine l_nil ?_
        refine r_forget [(1, .string _), (2, .pointer _), (5, .int _ _), (23, .bool _)] ⟨rfl, rfl, rfl, rfl, trivial⟩ (fun e8 => ?_)
        refine r_cond rfl (fun hc9 => ?_) (fun hc9 => ?_)
        · skip
          try simp only [decide_eq_true_eq, decide_eq_false_iff_not, Bool.not_eq_true', Bool.not_eq_false', Bool.not_not, Bool.not_true, Bool.not_false, Bool.not_eq_true, Bool.not_eq_false, Int.not_lt, Int.not_le, Bool.and_eq_true, Bool.or_eq_true, Bool.and_eq_false_iff, Bool.or_eq_false_iff] at hc9
          refine r_seq ?_
          refine r_region' ?_
          refine l_q (q_assign (v := .bool _) rfl rfl) ?_
          refine l_nil ?_
          refine r_forget [(4, .bool _)] ⟨rfl, trivial⟩ (fun e10 => ?_)
          refine r_ret_ (vs := [.bool _]) rfl Try.func4 rfl (.nil _) ⟨rfl, trivial⟩ ?_
          exact ⟨vbool_eq (thin_bad (k := k) (by omega) (by omega)).symm, Ext.of_below hB⟩
        · skip
          try simp only [decide_eq_true_eq, decide_eq_false_iff_not, Bool.not_eq_true', Bool.not_eq_false', Bool.not_not, Bool.not_true, Bool.not_false, Bool.not_eq_true, Bool.not_eq_false, Int.not_lt, Int.not_le, Bool.and_eq_true, Bool.or_eq_true, Bool.and_eq_false_iff, Bool.or_eq_false_iff] at hc9
          refine r_skip ?_
          refine r_inBlock ?_
          refine r_region' ?_
          refine l_q (q_move (v := .int _ _) rfl rfl) ?_
          refine l_q (q_add rfl rfl (by omega) rfl) ?_
          refine l_q (q_assign (v := .int _ _) rfl rfl) ?_
          refine l_nil ?_
          refine r_forget [(1, .string _), (2, .pointer _), (5, .int _ _)] ⟨rfl, rfl, rfl, trivial⟩ (fun e11 => ?_)
          exact ih3 (k + 1) _ _ ⟨⟨rfl, rfl, by first | rfl | exact vint_eq (by omega), trivial⟩, (by omega), (by omega), (fun j hj => by rcases Nat.lt_succ_iff_lt_or_eq.1 hj with h | h; exact hq j h; subst h; omega), hb1, hsz, hB⟩ (by first | omega | (dsimp only; omega))
      · skip
        try simp only [decide_eq_true_eq, decide_eq_false_iff_not, Bool.not_eq_true', Bool.not_eq_false', Bool.not_not, Bool.not_true, Bool.not_false, Bool.not_eq_true, Bool.not_eq_false, Int.not_lt, Int.not_le, Bool.and_eq_true, Bool.or_eq_true, Bool.and_eq_false_iff, Bool.or_eq_false_iff] at hc6
        refine r_exit rfl ?_
        refine r_seq ?_
        refine r_region' ?_
        refine l_q (q_fieldAddr (o' := 0) rfl fld24_0 rfl) ?_
        refine l_q (q_load Try.isAgg22 rfl ((hb1.has (o := 0) rfl)) rfl) ?_
        refine l_q (q_len rfl Try.underlying22 rfl rfl) ?_
        refine l_q (q_leq rfl rfl rfl) ?_
        refine l_q (q_move (v := .bool _) rfl rfl) ?_
        refine l_part 28 rfl (fun hc12 => ?_) (fun hc12 => ?_)
        · skip
          try simp only [decide_eq_true_eq, decide_eq_false_iff_not, Bool.not_eq_true', Bool.not_eq_false', Bool.not_not, Bool.not_true, Bool.not_false, Bool.not_eq_true, Bool.not_eq_false, Int.not_lt, Int.not_le, Bool.and_eq_true, Bool.or_eq_true, Bool.and_eq_false_iff, Bool.or_eq_false_iff] at hc12
          refine l_q (q_move (v := .string _) rfl rfl) ?_
          refine l_q (q_len_str rfl Try.underlying9 rfl rfl) ?_
          refine l_q (q_leq rfl rfl rfl) ?_
          refine l_q (q_pick_t (v := .bool _) rfl rfl rfl) ?_
          refine l_q (q_assign (v := .bool _) rfl rfl) ?_
          refine l_nil ?_
          refine r_forget [(4, .bool _)] ⟨rfl, trivial⟩ (fun e13 => ?_)
          refine r_ret_ (vs := [.bool _]) rfl Try.func4 rfl (.nil _) ⟨rfl, trivial⟩ ?_
          exact ⟨vbool_eq (by rw [thin_end (k := k) (by omega) (by omega) hq]; first | rw [decide_eq_true (by omega : (c.length : Int) ≤ 9), Bool.true_and] | rw [decide_eq_false (by omega : ¬ (c.length : Int) ≤ 9), Bool.false_and]), Ext.of_below hB⟩
        · skip
          try simp only [decide_eq_true_eq, decide_eq_false_iff_not, Bool.not_eq_true', Bool.not_eq_false', Bool.not_not, Bool.not_true, Bool.not_false, Bool.not_eq_true, Bool.not_eq_false, Int.not_lt, Int.not_le, Bool.and_eq_true, Bool.or_eq_true, Bool.and_eq_false_iff, Bool.or_eq_false_iff] at hc12
          refine l_q (q_skip rfl) ?_
          refine l_q (q_skip rfl) ?_
          refine l_q (q_skip rfl) ?_
          refine l_q (q_pick_f (v := .bool _) rfl rfl rfl) ?_
          refine l_q (q_assign (v := .bool _) rfl rfl) ?_
          refine l_nil ?_
          refine r_forget [(4, .bool _)] ⟨rfl, trivial⟩ (fun e14 => ?_)
          refine r_ret_ (vs := [.bool _]) rfl Try.func4 rfl (.nil _) ⟨rfl, trivial⟩ ?_
          exact ⟨vbool_eq (by rw [thin_end (k := k) (by omega) (by omega) hq]; first | rw [decide_eq_true (by omega : (c.length : Int) ≤ 9), Bool.true_and] | rw [decide_eq_false (by omega : ¬ (c.length : Int) ≤ 9), Bool.false_and]), Ext.of_below hB⟩
    · skip
      try simp only [decide_eq_true_eq, decide_eq_false_iff_not, Bool.not_eq_true', Bool.not_eq_false', Bool.not_not, Bool.not_true, Bool.not_false, Bool.not_eq_true, Bool.not_eq_false, Int.not_lt, Int.not_le, Bool.and_eq_true, Bool.or_eq_true, Bool.and_eq_false_iff, Bool.or_eq_false_iff] at hc4
      refine l_q (q_skip rfl) ?_
      refine l_q (q_skip rfl) ?_
      refine l_q (q_pick_f (v := .bool _) rfl rfl rfl) ?_
      refine l_nil ?_
      refine r_forget [(1, .string _), (2, .pointer _), (5, .int _ _), (14, .bool _)] ⟨rfl, rfl, rfl, rfl, trivial⟩ (fun e15 => ?_)
      refine r_cond_f rfl ?_
      refine r_exit rfl ?_
      refine r_seq ?_
      refine r_region' ?_
      refine l_q (q_fieldAddr (o' := 0) rfl fld24_0 rfl) ?_
      refine l_q (q_load Try.isAgg22 rfl ((hb1.has (o := 0) rfl)) rfl) ?_
      refine l_q (q_len rfl Try.underlying22 rfl rfl) ?_
      refine l_q (q_leq rfl rfl rfl) ?_
      refine l_q (q_move (v := .bool _) rfl rfl) ?_
      refine l_part 28 rfl (fun hc16 => ?_) (fun hc16 => ?_)
      · skip
        try simp only [decide_eq_true_eq, decide_eq_false_iff_not, Bool.not_eq_true', Bool.not_eq_false', Bool.not_not, Bool.not_true, Bool.not_false, Bool.not_eq_true, Bool.not_eq_false, Int.not_lt, Int.not_le, Bool.and_eq_true, Bool.or_eq_true, Bool.and_eq_false_iff, Bool.or_eq_false_iff] at hc16
        refine l_q (q_move (v := .string _) rfl rfl) ?_
        refine l_q (q_len_str rfl Try.underlying9 rfl rfl) ?_
        refine l_q (q_leq rfl rfl rfl) ?_
        refine l_q (q_pick_t (v := .bool _) rfl rfl rfl) ?_
        refine l_q (q_assign (v := .bool _) rfl rfl) ?_
        refine l_nil ?_
        refine r_forget [(4, .bool _)] ⟨rfl, trivial⟩ (fun e17 => ?_)
        refine r_ret_ (vs := [.bool _]) rfl Try.func4 rfl (.nil _) ⟨rfl, trivial⟩ ?_
        exact ⟨vbool_eq (by rw [thin_end (k := k) (by omega) (by omega) hq]; first | rw [decide_eq_true (by omega : (c.length : Int) ≤ 9), Bool.true_and] | rw [decide_eq_false (by omega : ¬ (c.length : Int) ≤ 9), Bool.false_and]), Ext.of_below hB⟩
      · skip
        try simp only [decide_eq_true_eq, decide_eq_false_iff_not, Bool.not_eq_true', Bool.not_eq_false', Bool.not_not, Bool.not_true, Bool.not_false, Bool.not_eq_true, Bool.not_eq_false, Int.not_lt, Int.not_le, Bool.and_eq_true, Bool.or_eq_true, Bool.and_eq_false_iff, Bool.or_eq_false_iff] at hc16
        refine l_q (q_skip rfl) ?_
        refine l_q (q_skip rfl) ?_
        refine l_q (q_skip rfl) ?_
        refine l_q (q_pick_f (v := .bool _) rfl rfl rfl) ?_
        refine l_q (q_assign (v := .bool _) rfl rfl) ?_
        refine l_nil ?_
        refine r_forget [(4, .bool _)] ⟨rfl, trivial⟩ (fun e18 => ?_)
        refine r_ret_ (vs := [.bool _]) rfl Try.func4 rfl (.nil _) ⟨rfl, trivial⟩ ?_
        exact ⟨vbool_eq (by rw [thin_end (k := k) (by omega) (by omega) hq]; first | rw [decide_eq_true (by omega : (c.length : Int) ≤ 9), Bool.true_and] | rw [decide_eq_false (by omega : ¬ (c.length : Int) ≤ 9), Bool.false_and]), Ext.of_below hB⟩
theorem checkCode_ret (a : Option Addr) (cc : Nat) (c : List Sg) (w : World) (hrow : Row w a c.length cc 1 (c.map vstr)) (hcn : c.length ≤ 2097152) (hcl : ∀ s ∈ c, s.length ≤ 2097152) : Ret Try.prog 41 [.agg ⟨[.slice a c.length cc]⟩] w (fun v w' => v = vint (fault c) ∧ Ext w w') := by
  have hB := Below.refl w.heap.size w
  have hsz : w.heap.size ≤ w.heap.size := Nat.le_refl _
  refine ret_of_runs (args := [_]) Try.func41 rfl (Nat.le_of_ble_eq_true rfl) (by kernel_rfl) ?_
  refine r_seq ?_
  refine r_region' ?_
  refine l_o (o_box rfl rfl rfl ?_)
  intro b1 w1 hzl1 hzr1 _ hb1 hE1
  have hbs_b1 : w.heap.size ≤ b1 := Nat.le_trans hsz hzl1
  replace hB := below_ext hB hE1 hsz
  replace hsz := Nat.le_trans hsz hE1.size
  refine l_q (q_assign (v := .int _ _) rfl rfl) ?_
  refine l_nil ?_
  refine r_forget [(1, .pointer _)] ⟨rfl, trivial⟩ (fun e2 => ?_)
  refine r_seq ?_
  refine r_region' ?_
  refine l_q (q_build (v := .agg ⟨[vstr [46, 45], vint 4]⟩) (fun w => by kernel_rfl) rfl) ?_
  refine l_q (q_makeFunc (v := .func _ ⟨[_]⟩ ⟨[]⟩) rfl rfl) ?_
  refine l_q (q_assign (v := .func _ _ _) rfl rfl) ?_
  refine l_nil ?_
  refine r_forget [(1, .pointer _), (3, .func _ _ _)] ⟨rfl, rfl, trivial⟩ (fun e3 => ?_)
  refine r_seq ?_
  refine r_seq ?_
  refine r_region' ?_
  refine l_q (q_fieldAddr (o' := 0) rfl fld58_0 rfl) ?_
  refine l_q (q_load Try.isAgg22 rfl ((hb1.has (o := 0) rfl)) rfl) ?_
  refine l_q (q_len rfl Try.underlying22 rfl rfl) ?_
  refine l_q (q_gtr rfl rfl rfl) ?_
  refine l_nil ?_
  refine r_forget [(1, .pointer _), (3, .func _ _ _), (11, .bool _)] ⟨rfl, rfl, rfl, trivial⟩ (fun e4 => ?_)
  refine r_cond rfl (fun hc5 => ?_) (fun hc5 => ?_)
  · skip
    try simp only [decide_eq_true_eq, decide_eq_false_iff_not, Bool.not_eq_true', Bool.not_eq_false', Bool.not_not, Bool.not_true, Bool.not_false, Bool.not_eq_true, Bool.not_eq_false, Int.not_lt, Int.not_le, Bool.and_eq_true, Bool.or_eq_true, Bool.and_eq_false_iff, Bool.or_eq_false_iff] at hc5
    refine r_seq ?_
    refine r_region' ?_
    refine l_q (q_assign (v := .int _ _) rfl rfl) ?_
    refine l_nil ?_
    refine r_forget [(2, .int _ _)] ⟨rfl, trivial⟩ (fun e6 => ?_)
    refine r_ret_ (vs := [.int _ _]) rfl Try.func41 rfl (.nil _) ⟨rfl, trivial⟩ ?_
    exact ⟨vint_eq (fault_many (by omega)).symm, Ext.of_below hB⟩
  · skip
    try simp only [decide_eq_true_eq, decide_eq_false_iff_not, Bool.not_eq_true', Bool.not_eq_false', Bool.not_not, Bool.not_true, Bool.not_false, Bool.not_eq_true, Bool.not_eq_false, Int.not_lt, Int.not_le, Bool.and_eq_true, Bool.or_eq_true, Bool.and_eq_false_iff, Bool.or_eq_false_iff] at hc5
    have h6 : c.length ≤ 6 := by omega
    refine r_skip ?_
    refine r_seq ?_
    refine r_seq ?_
    refine r_region' ?_
    refine l_q (q_fieldAddr (o' := 0) rfl fld58_0 rfl) ?_
    refine l_q (q_load Try.isAgg22 rfl ((hb1.has (o := 0) rfl)) rfl) ?_
    refine l_q (q_len rfl Try.underlying22 rfl rfl) ?_
    refine l_q (q_eql rfl rfl rfl) ?_
    refine l_q (q_move (v := .bool _) rfl rfl) ?_
    refine l_part 16 rfl (fun hc7 => ?_) (fun hc7 => ?_)
    · skip
      try simp only [decide_eq_true_eq, decide_eq_false_iff_not, Bool.not_eq_true', Bool.not_eq_false', Bool.not_not, Bool.not_true, Bool.not_false, Bool.not_eq_true, Bool.not_eq_false, Int.not_lt, Int.not_le, Bool.and_eq_true, Bool.or_eq_true, Bool.and_eq_false_iff, Bool.or_eq_false_iff] at hc7
      refine l_q (q_skip rfl) ?_
      refine l_q (q_skip rfl) ?_
      refine l_q (q_skip rfl) ?_
      refine l_q (q_skip rfl) ?_
      refine l_q (q_skip rfl) ?_
      refine l_q (q_pick_t (v := .bool _) rfl rfl rfl) ?_
      refine l_nil ?_
      refine r_forget [(1, .pointer _), (22, .bool _)] ⟨rfl, rfl, trivial⟩ (fun e8 => ?_)
      refine r_cond_t rfl ?_
      refine r_seq ?_
      refine r_region' ?_
      refine l_q (q_assign (v := .int _ _) rfl rfl) ?_
      refine l_nil ?_
      refine r_forget [(2, .int _ _)] ⟨rfl, trivial⟩ (fun e9 => ?_)
      refine r_ret_ (vs := [.int _ _]) rfl Try.func41 rfl (.nil _) ⟨rfl, trivial⟩ ?_
      exact ⟨vint_eq (fault_none h6 (by first | exact .inl (by omega) | exact .inr hbad)).symm, Ext.of_below hB⟩
    · skip
      try simp only [decide_eq_true_eq, decide_eq_false_iff_not, Bool.not_eq_true', Bool.not_eq_false', Bool.not_not, Bool.not_true, Bool.not_false, Bool.not_eq_true, Bool.not_eq_false, Int.not_lt, Int.not_le, Bool.and_eq_true, Bool.or_eq_true, Bool.and_eq_false_iff, Bool.or_eq_false_iff] at hc7
      refine l_q (q_fieldAddr (o' := 0) rfl fld58_0 rfl) ?_
      refine l_q (q_load Try.isAgg22 rfl ((hb1.has (o := 0) rfl)) rfl) ?_
      refine l_q (q_move (v := .func _ _ _) rfl rfl) ?_
      refine l_o (o_call Try.call57 rfl (all_string_of [] Try.call56 (hrow.below hB) (fun w' hw x hx => letter_ret [46, 45] x 4 _ (Nat.le_trans (hcl x hx) (by decide))) (by omega)) rfl ?_)
      rintro _ w10 ⟨rfl, hE10⟩
      replace hB := below_ext hB hE10 hsz
      replace hb1 := hb1.ext hE10
      replace hsz := Nat.le_trans hsz hE10.size
      refine l_q (q_not rfl rfl) ?_
      refine l_q (q_pick_f (v := .bool _) rfl rfl rfl) ?_
      refine l_nil ?_
      refine r_forget [(1, .pointer _), (22, .bool _)] ⟨rfl, rfl, trivial⟩ (fun e11 => ?_)
      refine r_cond rfl (fun hc12 => ?_) (fun hc12 => ?_)
      · skip
        try simp only [decide_eq_true_eq, decide_eq_false_iff_not, Bool.not_eq_true', Bool.not_eq_false', Bool.not_not, Bool.not_true, Bool.not_false, Bool.not_eq_true, Bool.not_eq_false, Int.not_lt, Int.not_le, Bool.and_eq_true, Bool.or_eq_true, Bool.and_eq_false_iff, Bool.or_eq_false_iff] at hc12
        have hbad := hc12
        refine r_seq ?_
        refine r_region' ?_
        refine l_q (q_assign (v := .int _ _) rfl rfl) ?_
        refine l_nil ?_
        refine r_forget [(2, .int _ _)] ⟨rfl, trivial⟩ (fun e13 => ?_)
        refine r_ret_ (vs := [.int _ _]) rfl Try.func41 rfl (.nil _) ⟨rfl, trivial⟩ ?_
        exact ⟨vint_eq (fault_none h6 (by first | exact .inl (by omega) | exact .inr hbad)).symm, Ext.of_below hB⟩
      · skip
        try simp only [decide_eq_true_eq, decide_eq_false_iff_not, Bool.not_eq_true', Bool.not_eq_false', Bool.not_not, Bool.not_true, Bool.not_false, Bool.not_eq_true, Bool.not_eq_false, Int.not_lt, Int.not_le, Bool.and_eq_true, Bool.or_eq_true, Bool.and_eq_false_iff, Bool.or_eq_false_iff] at hc12
        have hgood := hc12
        refine r_skip ?_
        refine r_seq ?_
        refine r_seq ?_
        refine r_region' ?_
        refine l_q (q_fieldAddr (o' := 0) rfl fld58_0 rfl) ?_
        refine l_q (q_load Try.isAgg22 rfl ((hb1.has (o := 0) rfl)) rfl) ?_
        refine l_q (q_len rfl Try.underlying22 rfl rfl) ?_
        refine l_q (q_move (v := .int _ _) rfl rfl) ?_
        refine l_nil ?_
        refine r_forget [(1, .pointer _), (24, .slice _ _ _), (25, .int _ _), (26, .int _ _)] ⟨rfl, rfl, rfl, rfl, trivial⟩ (fun e14 => ?_)
        refine r_block ?_
        refine r_rounds (α := Nat) (fun k e wl => Knows e [(1, ptr b1 0), (24, .slice a c.length cc), (25, vint (c.length : Int)), (26, vint (k : Int))] ∧ (k ≤ c.length) ∧ (∀ j, j < k → distinctAt c j = true) ∧ (Blk wl b1 [.slice a c.length cc]) ∧ (w.heap.size ≤ wl.heap.size) ∧ (Below w.heap.size w wl)) (fun k => c.length - k) 0 ?_ ?_
        · skip
          exact ⟨⟨rfl, rfl, rfl, rfl, trivial⟩, (Nat.zero_le _), (fun i hi => absurd hi (Nat.not_lt_zero _)), hb1, hsz, hB⟩
        · skip
          rintro k el15 wl15 ⟨hkn, hkk, hq, hb1, hsz, hB⟩ ih15
          obtain ⟨e15, rfl⟩ := knows_env hkn
          refine r_seq ?_
          refine r_region' ?_
          refine l_q (q_lss rfl rfl rfl) ?_
          refine l_nil ?_
          refine r_seq ?_
          refine r_cond rfl (fun hc16 => ?_) (fun hc16 => ?_)
          · skip
            try simp only [decide_eq_true_eq, decide_eq_false_iff_not, Bool.not_eq_true', Bool.not_eq_false', Bool.not_not, Bool.not_true, Bool.not_false, Bool.not_eq_true, Bool.not_eq_false, Int.not_lt, Int.not_le, Bool.and_eq_true, Bool.or_eq_true, Bool.and_eq_false_iff, Bool.or_eq_false_iff] at hc16
            refine r_skip ?_
            refine r_seq ?_
            refine r_block ?_
            refine r_seq ?_
            refine r_region' ?_
            refine l_q (q_move (v := .int _ _) rfl rfl) ?_
            obtain ⟨b17, o17, ha17, hh17⟩ := (hrow.below hB).at1 k ((c).getD k []) (getD_some (by omega))
            refine l_q (q_indexAddr1 Try.underlying22 Try.sizeOf9 rfl ha17 rfl (by omega) rfl) ?_
            refine l_q (q_load Try.isAgg9 rfl (hh17) rfl) ?_
            refine l_q (q_assign (v := .int _ _) rfl rfl) ?_
            refine l_q (q_assign (v := .string _) rfl rfl) ?_
            refine l_nil ?_
            refine r_forget [(1, .pointer _), (4, .int _ _), (5, .string _), (24, .slice _ _ _), (25, .int _ _), (26, .int _ _)] ⟨rfl, rfl, rfl, rfl, rfl, rfl, trivial⟩ (fun e18 => ?_)
            refine r_seq ?_
            refine r_region' ?_
            refine l_q (q_fieldAddr (o' := 0) rfl fld58_0 rfl) ?_
            refine l_q (q_load Try.isAgg22 rfl ((hb1.has (o := 0) rfl)) rfl) ?_
            refine l_q (q_move (v := .int _ _) rfl rfl) ?_
            obtain ⟨a19, c19, hr19, hv19⟩ := slice_ex_hi (f := vstr) (xs := c) ((k : Int)) (hrow.below hB) (by omega)
            refine l_q ((q_slice (lo := 0) (hi := (k : Int)) Try.underlying22 Try.sizeOf9 rfl rfl rfl (by omega) (hrow.below hB).2.1 rfl).cast hv19) ?_
            refine l_q (q_move (v := .string _) rfl rfl) ?_
            refine l_o (o_call Try.call58 rfl (contains_str_ret _ _ _ _ _ hr19 (by rw [List.length_take]; omega)) rfl ?_)
            rintro _ w20 ⟨rfl, rfl⟩
            refine l_nil ?_
            refine r_forget [(1, .pointer _), (24, .slice _ _ _), (25, .int _ _), (26, .int _ _), (36, .bool _)] ⟨rfl, rfl, rfl, rfl, rfl, trivial⟩ (fun e21 => ?_)
            refine r_cond rfl (fun hc22 => ?_) (fun hc22 => ?_)
            · skip
              try simp only [decide_eq_true_eq, decide_eq_false_iff_not, Bool.not_eq_true', Bool.not_eq_false', Bool.not_not, Bool.not_true, Bool.not_false, Bool.not_eq_true, Bool.not_eq_false, Int.not_lt, Int.not_le, Bool.and_eq_true, Bool.or_eq_true, Bool.and_eq_false_iff, Bool.or_eq_false_iff] at hc22
              refine r_seq ?_
              refine r_region' ?_
              refine l_q (q_assign (v := .int _ _) rfl rfl) ?_
              refine l_nil ?_
              refine r_forget [(2, .int _ _)] ⟨rfl, trivial⟩ (fun e23 => ?_)
              refine r_ret_ (vs := [.int _ _]) rfl Try.func41 rfl (.nil _) ⟨rfl, trivial⟩ ?_
              exact ⟨vint_eq (fault_bad (i := k) h6 (by omega) (.inr (by unfold distinctAt; simp_all))).symm, Ext.of_below hB⟩
            · skip
              try simp only [decide_eq_true_eq, decide_eq_false_iff_not, Bool.not_eq_true', Bool.not_eq_false', Bool.not_not, Bool.not_true, Bool.not_false, Bool.not_eq_true, Bool.not_eq_false, Int.not_lt, Int.not_le, Bool.and_eq_true, Bool.or_eq_true, Bool.and_eq_false_iff, Bool.or_eq_false_iff] at hc22
              refine r_skip ?_
              refine r_inBlock ?_
              refine r_region' ?_
              refine l_q (q_add rfl rfl (by omega) rfl) ?_
              refine l_q (q_move (v := .int _ _) rfl rfl) ?_
              refine l_nil ?_
              refine r_forget [(1, .pointer _), (24, .slice _ _ _), (25, .int _ _), (26, .int _ _)] ⟨rfl, rfl, rfl, rfl, trivial⟩ (fun e24 => ?_)
              exact ih15 (k + 1) _ _ ⟨⟨rfl, rfl, rfl, by first | rfl | exact vint_eq (by omega), trivial⟩, (by omega), (fun j hj => by rcases Nat.lt_succ_iff_lt_or_eq.1 hj with h | h; exact hq j h; subst h; (unfold distinctAt; simp_all)), hb1, hsz, hB⟩ (by first | omega | (dsimp only; omega))
          · skip
            try simp only [decide_eq_true_eq, decide_eq_false_iff_not, Bool.not_eq_true', Bool.not_eq_false', Bool.not_not, Bool.not_true, Bool.not_false, Bool.not_eq_true, Bool.not_eq_false, Int.not_lt, Int.not_le, Bool.and_eq_true, Bool.or_eq_true, Bool.and_eq_false_iff, Bool.or_eq_false_iff] at hc16
            refine r_exit rfl ?_
            refine r_seq ?_
            refine r_region' ?_
            refine l_q (q_assign (v := .int _ _) rfl rfl) ?_
            refine l_nil ?_
            refine r_forget [(2, .int _ _)] ⟨rfl, trivial⟩ (fun e25 => ?_)
            refine r_ret_ (vs := [.int _ _]) rfl Try.func41 rfl (.nil _) ⟨rfl, trivial⟩ ?_
            exact ⟨vint_eq (fault_all h6 (by omega) hgood (fun j hj => hq j (by omega))).symm, Ext.of_below hB⟩
theorem checkSigns_ret (a : Option Addr) (cc : Nat) (l : List Sg) (w : World) (hrow : Row w a l.length cc 1 (l.map vstr)) (hn : l.length ≤ 2097152) (hll : ∀ s ∈ l, s.length ≤ 2097152) : Ret Try.prog 42 [.slice a l.length cc] w (fun v w' => v = vint (chk l) ∧ Ext w w') := by
  have hB := Below.refl w.heap.size w
  have hsz : w.heap.size ≤ w.heap.size := Nat.le_refl _
  refine ret_of_runs (args := [_]) Try.func42 rfl (Nat.le_of_ble_eq_true rfl) (by kernel_rfl) ?_
  refine r_seq ?_
  refine r_region' ?_
  refine l_q (q_assign (v := .int _ _) rfl rfl) ?_
  refine l_nil ?_
  refine r_forget [(0, .slice _ _ _)] ⟨rfl, trivial⟩ (fun e1 => ?_)
  refine r_seq ?_
  refine r_seq ?_
  refine r_region' ?_
  refine l_q (q_move (v := .slice _ _ _) rfl rfl) ?_
  refine l_o (o_call Try.call57 rfl (all_string_of [] Try.call59 (hrow.below hB) (fun w' hw x hx => pureExt (checkSigns1_ret _ _)) (by omega)) rfl ?_)
  rintro _ w2 ⟨rfl, hE2⟩
  replace hB := below_ext hB hE2 hsz
  replace hsz := Nat.le_trans hsz hE2.size
  refine l_q (q_not rfl rfl) ?_
  refine l_nil ?_
  refine r_forget [(0, .slice _ _ _), (6, .bool _)] ⟨rfl, rfl, trivial⟩ (fun e3 => ?_)
  refine r_cond rfl (fun hc4 => ?_) (fun hc4 => ?_)
  · skip
    try simp only [decide_eq_true_eq, decide_eq_false_iff_not, Bool.not_eq_true', Bool.not_eq_false', Bool.not_not, Bool.not_true, Bool.not_false, Bool.not_eq_true, Bool.not_eq_false, Int.not_lt, Int.not_le, Bool.and_eq_true, Bool.or_eq_true, Bool.and_eq_false_iff, Bool.or_eq_false_iff] at hc4
    have h1 := hc4
    refine r_seq ?_
    refine r_region' ?_
    refine l_q (q_assign (v := .int _ _) rfl rfl) ?_
    refine l_nil ?_
    refine r_forget [(2, .int _ _)] ⟨rfl, trivial⟩ (fun e5 => ?_)
    refine r_ret_ (vs := [.int _ _]) rfl Try.func42 rfl (.nil _) ⟨rfl, trivial⟩ ?_
    exact ⟨vint_eq (by rw [chk, if_neg (fun h => Bool.false_ne_true (h1.symm.trans h))]), Ext.of_below hB⟩
  · skip
    try simp only [decide_eq_true_eq, decide_eq_false_iff_not, Bool.not_eq_true', Bool.not_eq_false', Bool.not_not, Bool.not_true, Bool.not_false, Bool.not_eq_true, Bool.not_eq_false, Int.not_lt, Int.not_le, Bool.and_eq_true, Bool.or_eq_true, Bool.and_eq_false_iff, Bool.or_eq_false_iff] at hc4
    have h1 := hc4
    refine r_skip ?_
    refine r_seq ?_
    refine r_region' ?_
    refine l_q (q_build (v := .agg ⟨[vstr [46, 45, 32], vint 0]⟩) (fun w => by kernel_rfl) rfl) ?_
    refine l_q (q_makeFunc (v := .func _ ⟨[_]⟩ ⟨[]⟩) rfl rfl) ?_
    refine l_o (o_alloc Try.zeroValue96 rfl rfl ?_)
    intro b6 w6 hzl6 hzr6 _ hb6 hE6
    have hbs_b6 : w.heap.size ≤ b6 := Nat.le_trans hsz hzl6
    replace hB := below_ext hB hE6 hsz
    replace hsz := Nat.le_trans hsz hE6.size
    refine l_o (o_store (vs := [.func (.func 60) ⟨[.agg ⟨[vstr [46, 45, 32], vint 0]⟩]⟩ ⟨[]⟩]) (cs' := [.func (.func 60) ⟨[.agg ⟨[vstr [46, 45, 32], vint 0]⟩]⟩ ⟨[]⟩]) Try.sizeOf96 rfl rfl rfl rfl hb6 (Nat.le_of_ble_eq_true rfl) rfl rfl ?_)
    intro w7 hz7 hb6 hG7
    replace hB := below_upd hB hG7 hsz (by omega)
    replace hsz : w.heap.size ≤ w7.heap.size := by rw [hz7]; exact hsz
    refine l_nil ?_
    refine r_forget [(0, .slice _ _ _), (3, .pointer _)] ⟨rfl, rfl, trivial⟩ (fun e8 => ?_)
    refine r_seq ?_
    refine r_seq ?_
    refine r_region' ?_
    refine l_q (q_move (v := .slice _ _ _) rfl rfl) ?_
    refine l_q (q_makeFunc (v := .func _ ⟨[]⟩ ⟨[_]⟩) rfl rfl) ?_
    refine l_o (o_call Try.call57 rfl (all_string_of [] Try.call61 (hrow.below hB) (fun w' hw x hx => checkSigns2_ret _ _ _ _ _ (hb6.ext hw) (Nat.le_trans (hll x hx) (by decide))) (by omega)) rfl ?_)
    rintro _ w9 ⟨rfl, hE9⟩
    replace hB := below_ext hB hE9 hsz
    replace hb6 := hb6.ext hE9
    replace hsz := Nat.le_trans hsz hE9.size
    refine l_q (q_not rfl rfl) ?_
    refine l_nil ?_
    refine r_forget [(12, .bool _)] ⟨rfl, trivial⟩ (fun e10 => ?_)
    refine r_cond rfl (fun hc11 => ?_) (fun hc11 => ?_)
    · skip
      try simp only [decide_eq_true_eq, decide_eq_false_iff_not, Bool.not_eq_true', Bool.not_eq_false', Bool.not_not, Bool.not_true, Bool.not_false, Bool.not_eq_true, Bool.not_eq_false, Int.not_lt, Int.not_le, Bool.and_eq_true, Bool.or_eq_true, Bool.and_eq_false_iff, Bool.or_eq_false_iff] at hc11
      have h2 : l.all isSigns = false := hc11
      refine r_seq ?_
      refine r_region' ?_
      refine l_q (q_assign (v := .int _ _) rfl rfl) ?_
      refine l_nil ?_
      refine r_forget [(2, .int _ _)] ⟨rfl, trivial⟩ (fun e12 => ?_)
      refine r_ret_ (vs := [.int _ _]) rfl Try.func42 rfl (.nil _) ⟨rfl, trivial⟩ ?_
      exact ⟨vint_eq (by rw [chk, if_pos h1, if_neg (fun h => Bool.false_ne_true (h2.symm.trans h))]), Ext.of_below hB⟩
    · skip
      try simp only [decide_eq_true_eq, decide_eq_false_iff_not, Bool.not_eq_true', Bool.not_eq_false', Bool.not_not, Bool.not_true, Bool.not_false, Bool.not_eq_true, Bool.not_eq_false, Int.not_lt, Int.not_le, Bool.and_eq_true, Bool.or_eq_true, Bool.and_eq_false_iff, Bool.or_eq_false_iff] at hc11
      have h2 : l.all isSigns = true := hc11
      refine r_skip ?_
      refine r_seq ?_
      refine r_region' ?_
      refine l_q (q_assign (v := .int _ _) rfl rfl) ?_
      refine l_nil ?_
      refine r_forget [(2, .int _ _)] ⟨rfl, trivial⟩ (fun e13 => ?_)
      refine r_ret_ (vs := [.int _ _]) rfl Try.func42 rfl (.nil _) ⟨rfl, trivial⟩ ?_
      exact ⟨vint_eq (by rw [chk, if_pos h1, if_pos h2]), Ext.of_below hB⟩
end Go.Proofs.Ytfbjllabgkabkaa
