/- Contracts. -/
import Derived.Test.YtfbjllabgkabkaaF2
set_option linter.unusedVariables false
set_option linter.unusedSimpArgs false
namespace Go.Proofs.Ytfbjllabgkabkaa
open Go Go.RowKit Go.Gv Go.Fl

theorem u8_ne {b : UInt8} {n : UInt8} (h : ¬ ((b.toNat : Int) = n.toNat)) : b ≠ n := fun he => h (by rw [he])
theorem u8_or {b : UInt8} (h : ((b.toNat : Int) = 46) ∨ ((b.toNat : Int) = 45)) : b = 46 ∨ b = 45 := by
  rcases h with h | h
  · left; apply UInt8.toNat_inj.1; exact_mod_cast h
  · right; apply UInt8.toNat_inj.1; exact_mod_cast h

theorem fld24_0 (w : World) (b o : Nat) : (Instr.fieldAt 24 (ptr b o) 0).run Try.prog w = .ok (ptr b (o + 0)) w := by
  simp [Instr.fieldAt, run_underlying Try.underlying24, fieldPlace, Instr.sureAddr, Try.sizeOf22, Addr.add_lit]
theorem in_ret (n lo hi : Int) (w : World) : Ret Try.prog 15 [vint n, vint lo, vint hi] w (fun v w' => v = .bool (decide (lo ≤ n) && decide (n ≤ hi)) ∧ w = w') := by
  have hB := Below.refl w.heap.size w
  have hsz : w.heap.size ≤ w.heap.size := Nat.le_refl _
  refine ret_of_runs (args := [_, _, _]) Try.func15 rfl (Nat.le_of_ble_eq_true rfl) (by kernel_rfl) ?_
  refine r_seq ?_
  refine r_region' ?_
  refine l_q (q_assign (v := .bool _) rfl rfl) ?_
  refine l_nil ?_
  refine r_forget [(0, .int _ _), (1, .int _ _), (2, .int _ _)] ⟨rfl, rfl, rfl, trivial⟩ (fun e1 => ?_)
  refine r_seq ?_
  refine r_region' ?_
  refine l_q (q_move (v := .int _ _) rfl rfl) ?_
  refine l_q (q_move (v := .int _ _) rfl rfl) ?_
  refine l_q (q_geq rfl rfl rfl) ?_
  refine l_q (q_move (v := .bool _) rfl rfl) ?_
  refine l_part 10 rfl (fun hc2 => ?_) (fun hc2 => ?_)
  · skip
    try simp only [decide_eq_true_eq, decide_eq_false_iff_not, Bool.not_eq_true', Bool.not_eq_false', Bool.not_not, Bool.not_true, Bool.not_false, Bool.not_eq_true, Bool.not_eq_false, Int.not_lt, Int.not_le, Bool.and_eq_true, Bool.or_eq_true, Bool.and_eq_false_iff, Bool.or_eq_false_iff] at hc2
    refine l_q (q_move (v := .int _ _) rfl rfl) ?_
    refine l_q (q_move (v := .int _ _) rfl rfl) ?_
    refine l_q (q_leq rfl rfl rfl) ?_
    refine l_q (q_pick_t (v := .bool _) rfl rfl rfl) ?_
    refine l_q (q_assign (v := .bool _) rfl rfl) ?_
    refine l_nil ?_
    refine r_forget [(6, .bool _)] ⟨rfl, trivial⟩ (fun e3 => ?_)
    refine r_ret_ (vs := [.bool _]) rfl Try.func15 rfl (.nil _) ⟨rfl, trivial⟩ ?_
    exact ⟨vbool_eq (by simp_all <;> omega), rfl⟩
  · skip
    try simp only [decide_eq_true_eq, decide_eq_false_iff_not, Bool.not_eq_true', Bool.not_eq_false', Bool.not_not, Bool.not_true, Bool.not_false, Bool.not_eq_true, Bool.not_eq_false, Int.not_lt, Int.not_le, Bool.and_eq_true, Bool.or_eq_true, Bool.and_eq_false_iff, Bool.or_eq_false_iff] at hc2
    refine l_q (q_skip rfl) ?_
    refine l_q (q_skip rfl) ?_
    refine l_q (q_skip rfl) ?_
    refine l_q (q_pick_f (v := .bool _) rfl rfl rfl) ?_
    refine l_q (q_assign (v := .bool _) rfl rfl) ?_
    refine l_nil ?_
    refine r_forget [(6, .bool _)] ⟨rfl, trivial⟩ (fun e4 => ?_)
    refine r_ret_ (vs := [.bool _]) rfl Try.func15 rfl (.nil _) ⟨rfl, trivial⟩ ?_
    exact ⟨vbool_eq (by simp_all <;> omega), rfl⟩
theorem cost_ret (k : Int) (w : World) : Ret Try.prog 53 [vint k] w (fun v w' => v = vint (cost k) ∧ w = w') := by
  have hB := Below.refl w.heap.size w
  have hsz : w.heap.size ≤ w.heap.size := Nat.le_refl _
  refine ret_of_runs (args := [_]) Try.func53 rfl (Nat.le_of_ble_eq_true rfl) (by kernel_rfl) ?_
  refine r_seq ?_
  refine r_region' ?_
  refine l_q (q_assign (v := .int _ _) rfl rfl) ?_
  refine l_nil ?_
  refine r_forget [(0, .int _ _)] ⟨rfl, trivial⟩ (fun e1 => ?_)
  refine r_seq ?_
  refine r_seq ?_
  refine r_region' ?_
  refine l_q (q_move (v := .int _ _) rfl rfl) ?_
  refine l_q (q_eql rfl rfl rfl) ?_
  refine l_nil ?_
  refine r_forget [(4, .bool _)] ⟨rfl, trivial⟩ (fun e2 => ?_)
  refine r_cond rfl (fun hc3 => ?_) (fun hc3 => ?_)
  · skip
    try simp only [decide_eq_true_eq, decide_eq_false_iff_not, Bool.not_eq_true', Bool.not_eq_false', Bool.not_not, Bool.not_true, Bool.not_false, Bool.not_eq_true, Bool.not_eq_false, Int.not_lt, Int.not_le, Bool.and_eq_true, Bool.or_eq_true, Bool.and_eq_false_iff, Bool.or_eq_false_iff] at hc3
    refine r_seq ?_
    refine r_region' ?_
    refine l_q (q_assign (v := .int _ _) rfl rfl) ?_
    refine l_nil ?_
    refine r_forget [(2, .int _ _)] ⟨rfl, trivial⟩ (fun e4 => ?_)
    refine r_ret_ (vs := [.int _ _]) rfl Try.func53 rfl (.nil _) ⟨rfl, trivial⟩ ?_
    exact ⟨vint_eq (by simp_all [cost]), rfl⟩
  · skip
    try simp only [decide_eq_true_eq, decide_eq_false_iff_not, Bool.not_eq_true', Bool.not_eq_false', Bool.not_not, Bool.not_true, Bool.not_false, Bool.not_eq_true, Bool.not_eq_false, Int.not_lt, Int.not_le, Bool.and_eq_true, Bool.or_eq_true, Bool.and_eq_false_iff, Bool.or_eq_false_iff] at hc3
    refine r_skip ?_
    refine r_seq ?_
    refine r_region' ?_
    refine l_q (q_assign (v := .int _ _) rfl rfl) ?_
    refine l_nil ?_
    refine r_forget [(2, .int _ _)] ⟨rfl, trivial⟩ (fun e5 => ?_)
    refine r_ret_ (vs := [.int _ _]) rfl Try.func53 rfl (.nil _) ⟨rfl, trivial⟩ ?_
    exact ⟨vint_eq (by simp_all [cost]), rfl⟩
theorem fault_ret (a : Option Addr) (cc : Nat) (c : List Sg) (w : World) (hrow : Row w a c.length cc 1 (c.map vstr)) (hcn : c.length ≤ 2097152) : Ret Try.prog 5 [.agg ⟨[.slice a c.length cc]⟩] w (fun v w' => v = vint (fault c) ∧ Ext w w') := by
  have hB := Below.refl w.heap.size w
  have hsz : w.heap.size ≤ w.heap.size := Nat.le_refl _
  refine ret_of_runs (args := [_]) Try.func5 rfl (Nat.le_of_ble_eq_true rfl) (by kernel_rfl) ?_
  refine r_seq ?_
  refine r_region' ?_
  refine l_o (o_box rfl rfl rfl ?_)
  intro b1 w1 hzl1 hzr1 _ hb1 hE1
  have hbs_b1 : w.heap.size ≤ b1 := Nat.le_trans hsz hzl1
  replace hB := below_ext hB hE1 hsz
  replace hsz := Nat.le_trans hsz hE1.size
  refine l_q (q_assign (v := .int _ _) rfl rfl) ?_
  refine l_nil ?_
  refine r_forget [(1, .pointer _)] ⟨rfl, trivial⟩ (fun e2 => ?_)
  refine r_seq ?_
  refine r_seq ?_
  refine r_region' ?_
  refine l_q (q_fieldAddr (o' := 0) rfl fld24_0 rfl) ?_
  refine l_q (q_load Try.isAgg22 rfl ((hb1.has (o := 0) rfl)) rfl) ?_
  refine l_q (q_len rfl Try.underlying22 rfl rfl) ?_
  refine l_q (q_gtr rfl rfl rfl) ?_
  refine l_nil ?_
  refine r_forget [(1, .pointer _), (10, .bool _)] ⟨rfl, rfl, trivial⟩ (fun e3 => ?_)
  refine r_cond rfl (fun hc4 => ?_) (fun hc4 => ?_)
  · skip
    try simp only [decide_eq_true_eq, decide_eq_false_iff_not, Bool.not_eq_true', Bool.not_eq_false', Bool.not_not, Bool.not_true, Bool.not_false, Bool.not_eq_true, Bool.not_eq_false, Int.not_lt, Int.not_le, Bool.and_eq_true, Bool.or_eq_true, Bool.and_eq_false_iff, Bool.or_eq_false_iff] at hc4
    refine r_seq ?_
    refine r_region' ?_
    refine l_q (q_assign (v := .int _ _) rfl rfl) ?_
    refine l_nil ?_
    refine r_forget [(2, .int _ _)] ⟨rfl, trivial⟩ (fun e5 => ?_)
    refine r_ret_ (vs := [.int _ _]) rfl Try.func5 rfl (.nil _) ⟨rfl, trivial⟩ ?_
    exact ⟨vint_eq (fault_many (by omega)).symm, Ext.of_below hB⟩
  · skip
    try simp only [decide_eq_true_eq, decide_eq_false_iff_not, Bool.not_eq_true', Bool.not_eq_false', Bool.not_not, Bool.not_true, Bool.not_false, Bool.not_eq_true, Bool.not_eq_false, Int.not_lt, Int.not_le, Bool.and_eq_true, Bool.or_eq_true, Bool.and_eq_false_iff, Bool.or_eq_false_iff] at hc4
    refine r_skip ?_
    refine r_seq ?_
    refine r_seq ?_
    refine r_region' ?_
    refine l_q (q_assign (v := .int _ _) rfl rfl) ?_
    refine l_nil ?_
    refine r_forget [(1, .pointer _), (3, .int _ _)] ⟨rfl, rfl, trivial⟩ (fun e6 => ?_)
    refine r_block ?_
    refine r_rounds (α := Nat) (fun i e wl => Knows e [(1, ptr b1 0), (3, vint (i : Int))] ∧ (i ≤ c.length) ∧ (c.length ≤ 6) ∧ (∀ j, j < i → letterOk (c.getD j []) = true ∧ distinctAt c j = true) ∧ (Blk wl b1 [.slice a c.length cc]) ∧ (w.heap.size ≤ wl.heap.size) ∧ (Below w.heap.size w wl)) (fun i => c.length - i) 0 ?_ ?_
    · skip
      exact ⟨⟨rfl, rfl, trivial⟩, (Nat.zero_le _), (by omega), (fun i hi => absurd hi (Nat.not_lt_zero _)), hb1, hsz, hB⟩
    · skip
      rintro i el7 wl7 ⟨hkn, hki, h6, hgood, hb1, hsz, hB⟩ ih7
      obtain ⟨e7, rfl⟩ := knows_env hkn
      refine r_seq ?_
      refine r_seq ?_
      refine r_region' ?_
      refine l_q (q_move (v := .int _ _) rfl rfl) ?_
      refine l_q (q_fieldAddr (o' := 0) rfl fld24_0 rfl) ?_
      refine l_q (q_load Try.isAgg22 rfl ((hb1.has (o := 0) rfl)) rfl) ?_
      refine l_q (q_len rfl Try.underlying22 rfl rfl) ?_
      refine l_q (q_lss rfl rfl rfl) ?_
      refine l_nil ?_
      refine r_forget [(1, .pointer _), (3, .int _ _), (15, .bool _)] ⟨rfl, rfl, rfl, trivial⟩ (fun e8 => ?_)
      refine r_cond rfl (fun hc9 => ?_) (fun hc9 => ?_)
      · skip
        try simp only [decide_eq_true_eq, decide_eq_false_iff_not, Bool.not_eq_true', Bool.not_eq_false', Bool.not_not, Bool.not_true, Bool.not_false, Bool.not_eq_true, Bool.not_eq_false, Int.not_lt, Int.not_le, Bool.and_eq_true, Bool.or_eq_true, Bool.and_eq_false_iff, Bool.or_eq_false_iff] at hc9
        refine r_skip ?_
        refine r_seq ?_
        refine r_block ?_
        refine r_seq ?_
        refine r_region' ?_
        refine l_q (q_fieldAddr (o' := 0) rfl fld24_0 rfl) ?_
        refine l_q (q_load Try.isAgg22 rfl ((hb1.has (o := 0) rfl)) rfl) ?_
        refine l_q (q_move (v := .int _ _) rfl rfl) ?_
        obtain ⟨b10, o10, ha10, hh10⟩ := (hrow.below hB).at1 i ((c).getD i []) (getD_some (by omega))
        refine l_q (q_indexAddr1 Try.underlying22 Try.sizeOf9 rfl ha10 rfl (by omega) rfl) ?_
        refine l_q (q_load Try.isAgg9 rfl (hh10) rfl) ?_
        refine l_q (q_assign (v := .string _) rfl rfl) ?_
        refine l_nil ?_
        refine r_forget [(1, .pointer _), (3, .int _ _), (4, .string _)] ⟨rfl, rfl, rfl, trivial⟩ (fun e11 => ?_)
        refine r_seq ?_
        refine r_seq ?_
        refine r_region' ?_
        refine l_q (q_move (v := .string _) rfl rfl) ?_
        refine l_q (q_len_str rfl Try.underlying9 rfl rfl) ?_
        refine l_o (o_call Try.call15 rfl (in_ret _ _ _ _) rfl ?_)
        rintro _ w12 ⟨rfl, rfl⟩
        refine l_q (q_not rfl rfl) ?_
        refine l_nil ?_
        refine r_forget [(1, .pointer _), (3, .int _ _), (4, .string _), (26, .bool _)] ⟨rfl, rfl, rfl, rfl, trivial⟩ (fun e13 => ?_)
        refine r_cond rfl (fun hc14 => ?_) (fun hc14 => ?_)
        · skip
          try simp only [decide_eq_true_eq, decide_eq_false_iff_not, Bool.not_eq_true', Bool.not_eq_false', Bool.not_not, Bool.not_true, Bool.not_false, Bool.not_eq_true, Bool.not_eq_false, Int.not_lt, Int.not_le, Bool.and_eq_true, Bool.or_eq_true, Bool.and_eq_false_iff, Bool.or_eq_false_iff] at hc14
          refine r_seq ?_
          refine r_region' ?_
          refine l_q (q_assign (v := .int _ _) rfl rfl) ?_
          refine l_nil ?_
          refine r_forget [(2, .int _ _)] ⟨rfl, trivial⟩ (fun e15 => ?_)
          refine r_ret_ (vs := [.int _ _]) rfl Try.func5 rfl (.nil _) ⟨rfl, trivial⟩ ?_
          exact ⟨vint_eq (fault_bad (i := i) h6 (by omega) (.inl (letter_bad_len (by omega)))).symm, Ext.of_below hB⟩
        · skip
          try simp only [decide_eq_true_eq, decide_eq_false_iff_not, Bool.not_eq_true', Bool.not_eq_false', Bool.not_not, Bool.not_true, Bool.not_false, Bool.not_eq_true, Bool.not_eq_false, Int.not_lt, Int.not_le, Bool.and_eq_true, Bool.or_eq_true, Bool.and_eq_false_iff, Bool.or_eq_false_iff] at hc14
          refine r_skip ?_
          refine r_seq ?_
          refine r_seq ?_
          refine r_region' ?_
          refine l_q (q_assign (v := .int _ _) rfl rfl) ?_
          refine l_nil ?_
          refine r_forget [(1, .pointer _), (3, .int _ _), (4, .string _), (5, .int _ _)] ⟨rfl, rfl, rfl, rfl, trivial⟩ (fun e16 => ?_)
          refine r_block ?_
          refine r_rounds (α := Nat) (fun k e wl => Knows e [(1, ptr b1 0), (3, vint (i : Int)), (4, vstr ((c).getD i [])), (5, vint (k : Int))] ∧ (k ≤ (c.getD i []).length) ∧ (∀ j, j < k → (c.getD i []).getD j 0 = 46 ∨ (c.getD i []).getD j 0 = 45) ∧ (Blk wl b1 [.slice a c.length cc]) ∧ (w.heap.size ≤ wl.heap.size) ∧ (Below w.heap.size w wl)) (fun k => (c.getD i []).length - k) 0 ?_ ?_
          · skip
            exact ⟨⟨rfl, rfl, rfl, rfl, trivial⟩, (Nat.zero_le _), (fun i hi => absurd hi (Nat.not_lt_zero _)), hb1, hsz, hB⟩
          · skip
            rintro k el17 wl17 ⟨hkn, hkk, hby, hb1, hsz, hB⟩ ih17
            obtain ⟨e17, rfl⟩ := knows_env hkn
            refine r_seq ?_
            refine r_seq ?_
            refine r_region' ?_
            refine l_q (q_move (v := .int _ _) rfl rfl) ?_
            refine l_q (q_move (v := .string _) rfl rfl) ?_
            refine l_q (q_len_str rfl Try.underlying9 rfl rfl) ?_
            refine l_q (q_lss rfl rfl rfl) ?_
            refine l_nil ?_
            refine r_forget [(1, .pointer _), (3, .int _ _), (4, .string _), (5, .int _ _), (30, .bool _)] ⟨rfl, rfl, rfl, rfl, rfl, trivial⟩ (fun e18 => ?_)
            refine r_cond rfl (fun hc19 => ?_) (fun hc19 => ?_)
            · skip
              try simp only [decide_eq_true_eq, decide_eq_false_iff_not, Bool.not_eq_true', Bool.not_eq_false', Bool.not_not, Bool.not_true, Bool.not_false, Bool.not_eq_true, Bool.not_eq_false, Int.not_lt, Int.not_le, Bool.and_eq_true, Bool.or_eq_true, Bool.and_eq_false_iff, Bool.or_eq_false_iff] at hc19
              refine r_skip ?_
              refine r_seq ?_
              refine r_block ?_
              refine r_seq ?_
              refine r_region' ?_
              refine l_q (q_move (v := .string _) rfl rfl) ?_
              refine l_q (q_move (v := .int _ _) rfl rfl) ?_
              refine l_q (q_index_str (c := ((c).getD i []).getD k 0) Try.underlying9 rfl rfl (by omega) (getD_some (by omega)) rfl) ?_
              refine l_q (q_neq rfl rfl rfl) ?_
              refine l_q (q_move (v := .bool _) rfl rfl) ?_
              refine l_part 37 rfl (fun hc20 => ?_) (fun hc20 => ?_)
              · skip
                try simp only [decide_eq_true_eq, decide_eq_false_iff_not, Bool.not_eq_true', Bool.not_eq_false', Bool.not_not, Bool.not_true, Bool.not_false, Bool.not_eq_true, Bool.not_eq_false, Int.not_lt, Int.not_le, Bool.and_eq_true, Bool.or_eq_true, Bool.and_eq_false_iff, Bool.or_eq_false_iff] at hc20
                refine l_q (q_move (v := .string _) rfl rfl) ?_
                refine l_q (q_move (v := .int _ _) rfl rfl) ?_
                refine l_q (q_index_str (c := ((c).getD i []).getD k 0) Try.underlying9 rfl rfl (by omega) (getD_some (by omega)) rfl) ?_
                refine l_q (q_neq rfl rfl rfl) ?_
                refine l_q (q_pick_t (v := .bool _) rfl rfl rfl) ?_
                refine l_nil ?_
                refine r_forget [(1, .pointer _), (3, .int _ _), (4, .string _), (5, .int _ _), (42, .bool _)] ⟨rfl, rfl, rfl, rfl, rfl, trivial⟩ (fun e21 => ?_)
                refine r_cond rfl (fun hc22 => ?_) (fun hc22 => ?_)
                · skip
                  try simp only [decide_eq_true_eq, decide_eq_false_iff_not, Bool.not_eq_true', Bool.not_eq_false', Bool.not_not, Bool.not_true, Bool.not_false, Bool.not_eq_true, Bool.not_eq_false, Int.not_lt, Int.not_le, Bool.and_eq_true, Bool.or_eq_true, Bool.and_eq_false_iff, Bool.or_eq_false_iff] at hc22
                  refine r_seq ?_
                  refine r_region' ?_
                  refine l_q (q_assign (v := .int _ _) rfl rfl) ?_
                  refine l_nil ?_
                  refine r_forget [(2, .int _ _)] ⟨rfl, trivial⟩ (fun e23 => ?_)
                  refine r_ret_ (vs := [.int _ _]) rfl Try.func5 rfl (.nil _) ⟨rfl, trivial⟩ ?_
                  exact ⟨vint_eq (fault_bad (i := i) h6 (by omega) (.inl (letter_bad_byte (k := k) (by omega) (u8_ne (by assumption)) (u8_ne (by assumption))))).symm, Ext.of_below hB⟩
                · skip
                  try simp only [decide_eq_true_eq, decide_eq_false_iff_not, Bool.not_eq_true', Bool.not_eq_false', Bool.not_not, Bool.not_true, Bool.not_false, Bool.not_eq_true, Bool.not_eq_false, Int.not_lt, Int.not_le, Bool.and_eq_true, Bool.or_eq_true, Bool.and_eq_false_iff, Bool.or_eq_false_iff] at hc22
                  refine r_skip ?_
                  refine r_inBlock ?_
                  refine r_region' ?_
                  refine l_q (q_move (v := .int _ _) rfl rfl) ?_
                  refine l_q (q_add rfl rfl (by omega) rfl) ?_
                  refine l_q (q_assign (v := .int _ _) rfl rfl) ?_
                  refine l_nil ?_
                  refine r_forget [(1, .pointer _), (3, .int _ _), (4, .string _), (5, .int _ _)] ⟨rfl, rfl, rfl, rfl, trivial⟩ (fun e24 => ?_)
                  exact ih17 (k + 1) _ _ ⟨⟨rfl, rfl, rfl, by first | rfl | exact vint_eq (by omega), trivial⟩, (by omega), (fun j hj => by rcases Nat.lt_succ_iff_lt_or_eq.1 hj with h | h; exact hby j h; subst h; first | exact u8_or (.inl (by assumption)) | exact u8_or (.inr (by assumption))), hb1, hsz, hB⟩ (by first | omega | (dsimp only; omega))
              · skip
                try simp only [decide_eq_true_eq, decide_eq_false_iff_not, Bool.not_eq_true', Bool.not_eq_false', Bool.not_not, Bool.not_true, Bool.not_false, Bool.not_eq_true, Bool.not_eq_false, Int.not_lt, Int.not_le, Bool.and_eq_true, Bool.or_eq_true, Bool.and_eq_false_iff, Bool.or_eq_false_iff] at hc20
                refine l_q (q_skip rfl) ?_
                refine l_q (q_skip rfl) ?_
                refine l_q (q_skip rfl) ?_
                refine l_q (q_skip rfl) ?_
                refine l_q (q_pick_f (v := .bool _) rfl rfl rfl) ?_
                refine l_nil ?_
                refine r_forget [(1, .pointer _), (3, .int _ _), (4, .string _), (5, .int _ _), (42, .bool _)] ⟨rfl, rfl, rfl, rfl, rfl, trivial⟩ (fun e25 => ?_)
                refine r_cond_f rfl ?_
                refine r_skip ?_
                refine r_inBlock ?_
                refine r_region' ?_
                refine l_q (q_move (v := .int _ _) rfl rfl) ?_
                refine l_q (q_add rfl rfl (by omega) rfl) ?_
                refine l_q (q_assign (v := .int _ _) rfl rfl) ?_
                refine l_nil ?_
                refine r_forget [(1, .pointer _), (3, .int _ _), (4, .string _), (5, .int _ _)] ⟨rfl, rfl, rfl, rfl, trivial⟩ (fun e26 => ?_)
                exact ih17 (k + 1) _ _ ⟨⟨rfl, rfl, rfl, by first | rfl | exact vint_eq (by omega), trivial⟩, (by omega), (fun j hj => by rcases Nat.lt_succ_iff_lt_or_eq.1 hj with h | h; exact hby j h; subst h; first | exact u8_or (.inl (by assumption)) | exact u8_or (.inr (by assumption))), hb1, hsz, hB⟩ (by first | omega | (dsimp only; omega))
            · skip
              try simp only [decide_eq_true_eq, decide_eq_false_iff_not, Bool.not_eq_true', Bool.not_eq_false', Bool.not_not, Bool.not_true, Bool.not_false, Bool.not_eq_true, Bool.not_eq_false, Int.not_lt, Int.not_le, Bool.and_eq_true, Bool.or_eq_true, Bool.and_eq_false_iff, Bool.or_eq_false_iff] at hc19
              have hkk : k = (c.getD i []).length := by omega
              subst hkk
              refine r_exit rfl ?_
              refine r_seq ?_
              refine r_region' ?_
              refine l_q (q_assign (v := .int _ _) rfl rfl) ?_
              refine l_nil ?_
              refine r_forget [(1, .pointer _), (3, .int _ _), (4, .string _), (6, .int _ _)] ⟨rfl, rfl, rfl, rfl, trivial⟩ (fun e27 => ?_)
              refine r_block ?_
              refine r_rounds (α := Nat) (fun m e wl => Knows e [(1, ptr b1 0), (3, vint (i : Int)), (4, vstr ((c).getD i [])), (6, vint (m : Int))] ∧ (m ≤ i) ∧ (∀ j, j < m → c.getD j [] ≠ c.getD i []) ∧ (Blk wl b1 [.slice a c.length cc]) ∧ (w.heap.size ≤ wl.heap.size) ∧ (Below w.heap.size w wl)) (fun m => i - m) 0 ?_ ?_
              · skip
                exact ⟨⟨rfl, rfl, rfl, rfl, trivial⟩, (Nat.zero_le _), (fun i hi => absurd hi (Nat.not_lt_zero _)), hb1, hsz, hB⟩
              · skip
                rintro m el28 wl28 ⟨hkn, hkm, hdi, hb1, hsz, hB⟩ ih28
                obtain ⟨e28, rfl⟩ := knows_env hkn
                refine r_seq ?_
                refine r_seq ?_
                refine r_region' ?_
                refine l_q (q_move (v := .int _ _) rfl rfl) ?_
                refine l_q (q_move (v := .int _ _) rfl rfl) ?_
                refine l_q (q_lss rfl rfl rfl) ?_
                refine l_nil ?_
                refine r_forget [(1, .pointer _), (3, .int _ _), (4, .string _), (6, .int _ _), (45, .bool _)] ⟨rfl, rfl, rfl, rfl, rfl, trivial⟩ (fun e29 => ?_)
                refine r_cond rfl (fun hc30 => ?_) (fun hc30 => ?_)
                · skip
                  try simp only [decide_eq_true_eq, decide_eq_false_iff_not, Bool.not_eq_true', Bool.not_eq_false', Bool.not_not, Bool.not_true, Bool.not_false, Bool.not_eq_true, Bool.not_eq_false, Int.not_lt, Int.not_le, Bool.and_eq_true, Bool.or_eq_true, Bool.and_eq_false_iff, Bool.or_eq_false_iff] at hc30
                  refine r_skip ?_
                  refine r_seq ?_
                  refine r_block ?_
                  refine r_seq ?_
                  refine r_region' ?_
                  refine l_q (q_fieldAddr (o' := 0) rfl fld24_0 rfl) ?_
                  refine l_q (q_load Try.isAgg22 rfl ((hb1.has (o := 0) rfl)) rfl) ?_
                  refine l_q (q_move (v := .int _ _) rfl rfl) ?_
                  obtain ⟨b31, o31, ha31, hh31⟩ := (hrow.below hB).at1 m ((c).getD m []) (getD_some (by omega))
                  refine l_q (q_indexAddr1 Try.underlying22 Try.sizeOf9 rfl ha31 rfl (by omega) rfl) ?_
                  refine l_q (q_load Try.isAgg9 rfl (hh31) rfl) ?_
                  refine l_q (q_move (v := .string _) rfl rfl) ?_
                  refine l_q (q_eql_str rfl rfl rfl) ?_
                  refine l_nil ?_
                  refine r_forget [(1, .pointer _), (3, .int _ _), (4, .string _), (6, .int _ _), (54, .bool _)] ⟨rfl, rfl, rfl, rfl, rfl, trivial⟩ (fun e32 => ?_)
                  refine r_cond rfl (fun hc33 => ?_) (fun hc33 => ?_)
                  · skip
                    try simp only [decide_eq_true_eq, decide_eq_false_iff_not, Bool.not_eq_true', Bool.not_eq_false', Bool.not_not, Bool.not_true, Bool.not_false, Bool.not_eq_true, Bool.not_eq_false, Int.not_lt, Int.not_le, Bool.and_eq_true, Bool.or_eq_true, Bool.and_eq_false_iff, Bool.or_eq_false_iff] at hc33
                    refine r_seq ?_
                    refine r_region' ?_
                    refine l_q (q_assign (v := .int _ _) rfl rfl) ?_
                    refine l_nil ?_
                    refine r_forget [(2, .int _ _)] ⟨rfl, trivial⟩ (fun e34 => ?_)
                    refine r_ret_ (vs := [.int _ _]) rfl Try.func5 rfl (.nil _) ⟨rfl, trivial⟩ ?_
                    exact ⟨vint_eq (fault_bad (i := i) h6 (by omega) (.inr (distinct_bad (k := m) (by omega) (by omega) (by assumption)))).symm, Ext.of_below hB⟩
                  · skip
                    try simp only [decide_eq_true_eq, decide_eq_false_iff_not, Bool.not_eq_true', Bool.not_eq_false', Bool.not_not, Bool.not_true, Bool.not_false, Bool.not_eq_true, Bool.not_eq_false, Int.not_lt, Int.not_le, Bool.and_eq_true, Bool.or_eq_true, Bool.and_eq_false_iff, Bool.or_eq_false_iff] at hc33
                    refine r_skip ?_
                    refine r_inBlock ?_
                    refine r_region' ?_
                    refine l_q (q_move (v := .int _ _) rfl rfl) ?_
                    refine l_q (q_add rfl rfl (by omega) rfl) ?_
                    refine l_q (q_assign (v := .int _ _) rfl rfl) ?_
                    refine l_nil ?_
                    refine r_forget [(1, .pointer _), (3, .int _ _), (4, .string _), (6, .int _ _)] ⟨rfl, rfl, rfl, rfl, trivial⟩ (fun e35 => ?_)
                    exact ih28 (m + 1) _ _ ⟨⟨rfl, rfl, rfl, by first | rfl | exact vint_eq (by omega), trivial⟩, (by omega), (fun j hj => by rcases Nat.lt_succ_iff_lt_or_eq.1 hj with h | h; exact hdi j h; subst h; assumption), hb1, hsz, hB⟩ (by first | omega | (dsimp only; omega))
                · skip
                  try simp only [decide_eq_true_eq, decide_eq_false_iff_not, Bool.not_eq_true', Bool.not_eq_false', Bool.not_not, Bool.not_true, Bool.not_false, Bool.not_eq_true, Bool.not_eq_false, Int.not_lt, Int.not_le, Bool.and_eq_true, Bool.or_eq_true, Bool.and_eq_false_iff, Bool.or_eq_false_iff] at hc30
                  have hmm : i = m := by omega
                  subst hmm
                  refine r_exit rfl ?_
                  refine r_inBlock ?_
                  refine r_region' ?_
                  refine l_q (q_move (v := .int _ _) rfl rfl) ?_
                  refine l_q (q_add rfl rfl (by omega) rfl) ?_
                  refine l_q (q_assign (v := .int _ _) rfl rfl) ?_
                  refine l_nil ?_
                  refine r_forget [(1, .pointer _), (3, .int _ _)] ⟨rfl, rfl, trivial⟩ (fun e36 => ?_)
                  exact ih7 (i + 1) _ _ ⟨⟨rfl, by first | rfl | exact vint_eq (by omega), trivial⟩, (by omega), h6, (fun j hj => by rcases Nat.lt_succ_iff_lt_or_eq.1 hj with h | h; exact hgood j h; subst h; exact ⟨letter_good (by omega) hby, distinct_good (by omega) hdi⟩), hb1, hsz, hB⟩ (by first | omega | (dsimp only; omega))
      · skip
        try simp only [decide_eq_true_eq, decide_eq_false_iff_not, Bool.not_eq_true', Bool.not_eq_false', Bool.not_not, Bool.not_true, Bool.not_false, Bool.not_eq_true, Bool.not_eq_false, Int.not_lt, Int.not_le, Bool.and_eq_true, Bool.or_eq_true, Bool.and_eq_false_iff, Bool.or_eq_false_iff] at hc9
        refine r_exit rfl ?_
        refine r_seq ?_
        refine r_seq ?_
        refine r_region' ?_
        refine l_q (q_fieldAddr (o' := 0) rfl fld24_0 rfl) ?_
        refine l_q (q_load Try.isAgg22 rfl ((hb1.has (o := 0) rfl)) rfl) ?_
        refine l_q (q_len rfl Try.underlying22 rfl rfl) ?_
        refine l_q (q_eql rfl rfl rfl) ?_
        refine l_nil ?_
        refine r_forget [(58, .bool _)] ⟨rfl, trivial⟩ (fun e37 => ?_)
        refine r_cond rfl (fun hc38 => ?_) (fun hc38 => ?_)
        · skip
          try simp only [decide_eq_true_eq, decide_eq_false_iff_not, Bool.not_eq_true', Bool.not_eq_false', Bool.not_not, Bool.not_true, Bool.not_false, Bool.not_eq_true, Bool.not_eq_false, Int.not_lt, Int.not_le, Bool.and_eq_true, Bool.or_eq_true, Bool.and_eq_false_iff, Bool.or_eq_false_iff] at hc38
          refine r_seq ?_
          refine r_region' ?_
          refine l_q (q_assign (v := .int _ _) rfl rfl) ?_
          refine l_nil ?_
          refine r_forget [(2, .int _ _)] ⟨rfl, trivial⟩ (fun e39 => ?_)
          refine r_ret_ (vs := [.int _ _]) rfl Try.func5 rfl (.nil _) ⟨rfl, trivial⟩ ?_
          exact ⟨vint_eq (fault_empty (by omega)).symm, Ext.of_below hB⟩
        · skip
          try simp only [decide_eq_true_eq, decide_eq_false_iff_not, Bool.not_eq_true', Bool.not_eq_false', Bool.not_not, Bool.not_true, Bool.not_false, Bool.not_eq_true, Bool.not_eq_false, Int.not_lt, Int.not_le, Bool.and_eq_true, Bool.or_eq_true, Bool.and_eq_false_iff, Bool.or_eq_false_iff] at hc38
          refine r_skip ?_
          refine r_seq ?_
          refine r_region' ?_
          refine l_q (q_assign (v := .int _ _) rfl rfl) ?_
          refine l_nil ?_
          refine r_forget [(2, .int _ _)] ⟨rfl, trivial⟩ (fun e40 => ?_)
          refine r_ret_ (vs := [.int _ _]) rfl Try.func5 rfl (.nil _) ⟨rfl, trivial⟩ ?_
          exact ⟨vint_eq (fault_good h6 (by omega) (fun j hj => hgood j (by omega))).symm, Ext.of_below hB⟩
end Go.Proofs.Ytfbjllabgkabkaa
