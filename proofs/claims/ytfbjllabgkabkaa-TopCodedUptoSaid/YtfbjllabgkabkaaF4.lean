/- Contracts. -/
import Derived.Test.YtfbjllabgkabkaaF3
set_option linter.unusedVariables false
set_option linter.unusedSimpArgs false
namespace Go.Proofs.Ytfbjllabgkabkaa
open Go Go.RowKit Go.Gv Go.Fl

def isSign (b : UInt8) : Bool := [46, 45, 32].contains b
theorem u8_eq {b n : UInt8} (h : (b.toNat : Int) = n.toNat) : b = n := UInt8.toNat_inj.1 (by exact_mod_cast h)
theorem isSign_of {b : UInt8} (h : ((b.toNat : Int) = 46) ∨ ((b.toNat : Int) = 45) ∨ ((b.toNat : Int) = 32)) : isSign b = true := by
  rcases h with h | h | h
  · rw [u8_eq (n := 46) h]; rfl
  · rw [u8_eq (n := 45) h]; rfl
  · rw [u8_eq (n := 32) h]; rfl
theorem isSign_not {b : UInt8} (h1 : ¬ ((b.toNat : Int) = 46)) (h2 : ¬ ((b.toNat : Int) = 45)) (h3 : ¬ ((b.toNat : Int) = 32)) : isSign b = false := by
  have h1 := u8_ne (n := 46) h1; have h2 := u8_ne (n := 45) h2; have h3 := u8_ne (n := 32) h3
  simp [isSign, h1, h2, h3]
theorem all_getD {α : Type} {l : List α} {d : α} {p : α → Bool} (h : ∀ j, j < l.length → p (l.getD j d) = true) : l.all p = true := by
  rw [List.all_eq_true]
  intro x hx
  obtain ⟨i, hi, rfl⟩ := List.mem_iff_getElem.1 hx
  have := h i hi
  rwa [List.getD_eq_getElem?_getD, List.getElem?_eq_getElem hi] at this
theorem all_bad {α : Type} {l : List α} {d : α} {p : α → Bool} {k : Nat} (hk : k < l.length) (h : p (l.getD k d) = false) : l.all p = false := by
  rw [List.all_eq_false]
  exact ⟨_, getD_lt hk, by rw [h]; exact Bool.false_ne_true⟩
theorem signsFault_good {a b s : Sg} (hs : s = a ++ b) (hle : a.length ≤ 40 ∧ b.length ≤ 40) (h : ∀ j, j < s.length → isSign (s.getD j 0) = true) : signsFault a b = 0 := by
  have := all_getD h
  rw [hs] at this
  rw [List.all_append, Bool.and_eq_true] at this
  unfold signsFault
  rw [if_neg (by omega), if_pos (by rw [Bool.and_eq_true]; exact this)]
theorem signsFault_bad {a b s : Sg} (hs : s = a ++ b) {k : Nat} (hle : a.length ≤ 40 ∧ b.length ≤ 40) (hk : k < s.length) (h : isSign (s.getD k 0) = false) : signsFault a b = 4 := by
  have := all_bad hk h
  rw [hs] at this
  rw [List.all_append] at this
  unfold signsFault
  rw [if_neg (by omega), if_neg (by unfold isSigns; unfold isSign at this; rw [this]; simp)]
theorem isText_good {c : List Sg} {t : List Int} (h : ∀ j, j < t.length → (decide (0 ≤ t.getD j 0) && decide (t.getD j 0 ≤ (c.length : Int) - 1)) = true) : isText c t = true :=
  all_getD (d := 0) (p := fun n => decide (0 ≤ n) && decide (n ≤ (c.length : Int) - 1)) h
theorem isText_bad {c : List Sg} {t : List Int} {k : Nat} (hk : k < t.length) (h : (decide (0 ≤ t.getD k 0) && decide (t.getD k 0 ≤ (c.length : Int) - 1)) = false) : isText c t = false :=
  all_bad (d := 0) (p := fun n => decide (0 ≤ n) && decide (n ≤ (c.length : Int) - 1)) hk h
theorem signs_step1 {c : List Sg} {t : List Int} {k : Nat} (hk : k < t.length) (h0 : 0 < k) : (signs c (t.take k) ++ [32]) ++ c.getD (t.getD k 0).toNat [] = signs c (t.take (k + 1)) := by
  rw [take_succ_getD hk, signs_snoc (by intro h; have := congrArg List.length h; rw [List.length_take, List.length_nil] at this; omega)]
theorem signs_step0 {c : List Sg} {t : List Int} {k : Nat} (hk : k < t.length) (h0 : k = 0) : signs c (t.take k) ++ c.getD (t.getD k 0).toNat [] = signs c (t.take (k + 1)) := by
  subst h0
  rw [take_succ_getD hk]
  simp [signs_nil, signs_one]


theorem refSigns_ret (a : Option Addr) (cc : Nat) (c : List Sg) (ta : Option Addr) (tc : Nat) (t : List Int) (w : World) (hrow : Row w a c.length cc 1 (c.map vstr)) (hcn : c.length ≤ 2097152) (ht : Row w ta t.length tc 1 (t.map vint)) (htn : t.length ≤ 2097152) (hfc : fault c = 0) (htx : isText c t = true) : Ret Try.prog 32 [.agg ⟨[.slice a c.length cc]⟩, .slice ta t.length tc] w (fun v w' => v = vstr (signs c t) ∧ Ext w w') := by
  have hB := Below.refl w.heap.size w
  have hsz : w.heap.size ≤ w.heap.size := Nat.le_refl _
  refine ret_of_runs (args := [_, _]) Try.func32 rfl (Nat.le_of_ble_eq_true rfl) (by kernel_rfl) ?_
  refine r_seq ?_
  refine r_region' ?_
  refine l_o (o_box rfl rfl rfl ?_)
  intro b1 w1 hzl1 hzr1 _ hb1 hE1
  have hbs_b1 : w.heap.size ≤ b1 := Nat.le_trans hsz hzl1
  replace hB := below_ext hB hE1 hsz
  replace hsz := Nat.le_trans hsz hE1.size
  refine l_q (q_assign (v := .string _) rfl rfl) ?_
  refine l_nil ?_
  refine r_forget [(1, .slice _ _ _), (2, .pointer _)] ⟨rfl, rfl, trivial⟩ (fun e2 => ?_)
  refine r_seq ?_
  refine r_region' ?_
  refine l_q (q_assign (v := .string _) rfl rfl) ?_
  refine l_nil ?_
  refine r_seq ?_
  refine r_seq ?_
  refine r_region' ?_
  refine l_q (q_assign (v := .int _ _) rfl rfl) ?_
  refine l_nil ?_
  refine r_block ?_
  refine r_rounds (α := Nat × Sg) (fun ⟨k, out⟩ e wl => Knows e [(1, .slice ta t.length tc), (2, ptr b1 0), (5, vstr out), (6, vint (k : Int))] ∧ (k ≤ t.length) ∧ (out = signs c (t.take k)) ∧ (Blk wl b1 [.slice a c.length cc]) ∧ (w.heap.size ≤ wl.heap.size) ∧ (Below w.heap.size w wl)) (fun ⟨k, out⟩ => t.length - k) (0, []) ?_ ?_
  · skip
    exact ⟨⟨rfl, rfl, rfl, rfl, trivial⟩, (Nat.zero_le _), rfl, hb1, hsz, hB⟩
  · skip
    rintro ⟨k, out⟩ el3 wl3 ⟨hkn, hkk, hout, hb1, hsz, hB⟩ ih3
    obtain ⟨e3, rfl⟩ := knows_env hkn
    refine r_seq ?_
    refine r_seq ?_
    refine r_region' ?_
    refine l_q (q_move (v := .int _ _) rfl rfl) ?_
    refine l_q (q_move (v := .slice _ _ _) rfl rfl) ?_
    refine l_q (q_len rfl Try.underlying26 rfl rfl) ?_
    refine l_q (q_lss rfl rfl rfl) ?_
    refine l_nil ?_
    refine r_forget [(1, .slice _ _ _), (2, .pointer _), (5, .string _), (6, .int _ _), (10, .bool _)] ⟨rfl, rfl, rfl, rfl, rfl, trivial⟩ (fun e4 => ?_)
    refine r_cond rfl (fun hc5 => ?_) (fun hc5 => ?_)
    · skip
      try simp only [decide_eq_true_eq, decide_eq_false_iff_not, Bool.not_eq_true', Bool.not_eq_false', Bool.not_not, Bool.not_true, Bool.not_false, Bool.not_eq_true, Bool.not_eq_false, Int.not_lt, Int.not_le, Bool.and_eq_true, Bool.or_eq_true, Bool.and_eq_false_iff, Bool.or_eq_false_iff] at hc5
      have hkl : k < t.length := by omega
      have hg := isText_get htx hkl
      have hol : out.length ≤ 5 * k := by rw [hout]; have := signs_len hfc (isText_take htx k); rw [List.length_take] at this; omega
      have hll := letter_at hfc hg
      refine r_skip ?_
      refine r_seq ?_
      refine r_block ?_
      refine r_seq ?_
      refine r_seq ?_
      refine r_region' ?_
      refine l_q (q_move (v := .int _ _) rfl rfl) ?_
      refine l_q (q_gtr rfl rfl rfl) ?_
      refine l_nil ?_
      refine r_forget [(1, .slice _ _ _), (2, .pointer _), (5, .string _), (6, .int _ _), (14, .bool _)] ⟨rfl, rfl, rfl, rfl, rfl, trivial⟩ (fun e6 => ?_)
      refine r_cond rfl (fun hc7 => ?_) (fun hc7 => ?_)
      · skip
        try simp only [decide_eq_true_eq, decide_eq_false_iff_not, Bool.not_eq_true', Bool.not_eq_false', Bool.not_not, Bool.not_true, Bool.not_false, Bool.not_eq_true, Bool.not_eq_false, Int.not_lt, Int.not_le, Bool.and_eq_true, Bool.or_eq_true, Bool.and_eq_false_iff, Bool.or_eq_false_iff] at hc7
        have hk0 : 0 < k := by omega
        refine r_region' ?_
        refine l_q (q_move (v := .string _) rfl rfl) ?_
        refine l_q (q_add_str rfl rfl (by simp; omega) rfl) ?_
        refine l_q (q_assign (v := .string _) rfl rfl) ?_
        refine l_nil ?_
        refine r_forget [(1, .slice _ _ _), (2, .pointer _), (5, .string _), (6, .int _ _)] ⟨rfl, rfl, rfl, rfl, trivial⟩ (fun e8 => ?_)
        refine r_draw ext_refl' ext_trans' [0, 1, 2, 3, 4, 5, 6, 7, 8, 9, 10] [] 2 (by kernel_rfl) (by kernel_rfl) ?_
        intro w9 _ hE9
        replace hB := below_ext hB hE9 hsz
        replace hb1 := hb1.ext hE9
        replace hsz := Nat.le_trans hsz hE9.size
        refine m_q rfl rfl (fun w' hC' => q_move (v := .string _) rfl rfl) ?_
        refine m_q rfl rfl (fun w' hC' => q_fieldAddr (o' := 0) rfl fld24_0 rfl) ?_
        refine m_q rfl rfl (fun w' hC' => q_load Try.isAgg22 rfl (((hb1.has (o := 0) rfl).ext hC')) rfl) ?_
        refine m_q rfl rfl (fun w' hC' => q_move (v := .slice _ _ _) rfl rfl) ?_
        refine m_q rfl rfl (fun w' hC' => q_move (v := .int _ _) rfl rfl) ?_
        obtain ⟨b10, o10, ha10, hh10⟩ := (ht.below hB).at1 k ((t).getD k 0) (getD_some (by omega))
        refine m_q rfl rfl (fun w' hC' => q_indexAddr1 Try.underlying26 Try.sizeOf3 rfl ha10 rfl (by omega) rfl) ?_
        refine m_q rfl rfl (fun w' hC' => q_load Try.isAgg3 rfl ((hh10.ext hC')) rfl) ?_
        obtain ⟨b11, o11, ha11, hh11⟩ := (hrow.below hB).at1 ((t).getD k 0).toNat ((c).getD ((t).getD k 0).toNat []) (getD_some (by omega))
        refine m_q rfl rfl (fun w' hC' => q_indexAddr1 Try.underlying22 Try.sizeOf9 rfl ha11 rfl (by omega) rfl) ?_
        refine m_q rfl rfl (fun w' hC' => q_load Try.isAgg9 rfl ((hh11.ext hC')) rfl) ?_
        refine m_q rfl rfl (fun w' hC' => q_add_str rfl rfl (by simp only [List.length_append, List.length_cons, List.length_nil] at *; omega) rfl) ?_
        refine m_q rfl rfl (fun w' hC' => q_assign (v := .string _) rfl rfl) ?_
        refine m_nil ?_
        refine r_forget [(1, .slice _ _ _), (2, .pointer _), (5, .string _), (6, .int _ _)] ⟨rfl, rfl, rfl, rfl, trivial⟩ (fun e12 => ?_)
        refine r_inBlock ?_
        refine r_region' ?_
        refine l_q (q_move (v := .int _ _) rfl rfl) ?_
        refine l_q (q_add rfl rfl (by omega) rfl) ?_
        refine l_q (q_assign (v := .int _ _) rfl rfl) ?_
        refine l_nil ?_
        refine r_forget [(1, .slice _ _ _), (2, .pointer _), (5, .string _), (6, .int _ _)] ⟨rfl, rfl, rfl, rfl, trivial⟩ (fun e13 => ?_)
        exact ih3 (k + 1, (out ++ [32]) ++ ((c).getD ((t).getD k 0).toNat [])) _ _ ⟨⟨rfl, rfl, rfl, by first | rfl | exact vint_eq (by omega), trivial⟩, (by omega), (by rw [hout]; first | exact signs_step1 hkl hk0 | exact signs_step0 hkl hk0), hb1, hsz, hB⟩ (by first | omega | (dsimp only; omega))
      · skip
        try simp only [decide_eq_true_eq, decide_eq_false_iff_not, Bool.not_eq_true', Bool.not_eq_false', Bool.not_not, Bool.not_true, Bool.not_false, Bool.not_eq_true, Bool.not_eq_false, Int.not_lt, Int.not_le, Bool.and_eq_true, Bool.or_eq_true, Bool.and_eq_false_iff, Bool.or_eq_false_iff] at hc7
        have hk0 : k = 0 := by omega
        refine r_skip ?_
        refine r_draw ext_refl' ext_trans' [0, 1, 2, 3, 4, 5, 6, 7, 8, 9, 10] [] 2 (by kernel_rfl) (by kernel_rfl) ?_
        intro w14 _ hE14
        replace hB := below_ext hB hE14 hsz
        replace hb1 := hb1.ext hE14
        replace hsz := Nat.le_trans hsz hE14.size
        refine m_q rfl rfl (fun w' hC' => q_move (v := .string _) rfl rfl) ?_
        refine m_q rfl rfl (fun w' hC' => q_fieldAddr (o' := 0) rfl fld24_0 rfl) ?_
        refine m_q rfl rfl (fun w' hC' => q_load Try.isAgg22 rfl (((hb1.has (o := 0) rfl).ext hC')) rfl) ?_
        refine m_q rfl rfl (fun w' hC' => q_move (v := .slice _ _ _) rfl rfl) ?_
        refine m_q rfl rfl (fun w' hC' => q_move (v := .int _ _) rfl rfl) ?_
        obtain ⟨b15, o15, ha15, hh15⟩ := (ht.below hB).at1 k ((t).getD k 0) (getD_some (by omega))
        refine m_q rfl rfl (fun w' hC' => q_indexAddr1 Try.underlying26 Try.sizeOf3 rfl ha15 rfl (by omega) rfl) ?_
        refine m_q rfl rfl (fun w' hC' => q_load Try.isAgg3 rfl ((hh15.ext hC')) rfl) ?_
        obtain ⟨b16, o16, ha16, hh16⟩ := (hrow.below hB).at1 ((t).getD k 0).toNat ((c).getD ((t).getD k 0).toNat []) (getD_some (by omega))
        refine m_q rfl rfl (fun w' hC' => q_indexAddr1 Try.underlying22 Try.sizeOf9 rfl ha16 rfl (by omega) rfl) ?_
        refine m_q rfl rfl (fun w' hC' => q_load Try.isAgg9 rfl ((hh16.ext hC')) rfl) ?_
        refine m_q rfl rfl (fun w' hC' => q_add_str rfl rfl (by simp only [List.length_append, List.length_cons, List.length_nil] at *; omega) rfl) ?_
        refine m_q rfl rfl (fun w' hC' => q_assign (v := .string _) rfl rfl) ?_
        refine m_nil ?_
        refine r_forget [(1, .slice _ _ _), (2, .pointer _), (5, .string _), (6, .int _ _)] ⟨rfl, rfl, rfl, rfl, trivial⟩ (fun e17 => ?_)
        refine r_inBlock ?_
        refine r_region' ?_
        refine l_q (q_move (v := .int _ _) rfl rfl) ?_
        refine l_q (q_add rfl rfl (by omega) rfl) ?_
        refine l_q (q_assign (v := .int _ _) rfl rfl) ?_
        refine l_nil ?_
        refine r_forget [(1, .slice _ _ _), (2, .pointer _), (5, .string _), (6, .int _ _)] ⟨rfl, rfl, rfl, rfl, trivial⟩ (fun e18 => ?_)
        exact ih3 (k + 1, out ++ ((c).getD ((t).getD k 0).toNat [])) _ _ ⟨⟨rfl, rfl, rfl, by first | rfl | exact vint_eq (by omega), trivial⟩, (by omega), (by rw [hout]; first | exact signs_step1 hkl hk0 | exact signs_step0 hkl hk0), hb1, hsz, hB⟩ (by first | omega | (dsimp only; omega))
    · skip
      try simp only [decide_eq_true_eq, decide_eq_false_iff_not, Bool.not_eq_true', Bool.not_eq_false', Bool.not_not, Bool.not_true, Bool.not_false, Bool.not_eq_true, Bool.not_eq_false, Int.not_lt, Int.not_le, Bool.and_eq_true, Bool.or_eq_true, Bool.and_eq_false_iff, Bool.or_eq_false_iff] at hc5
      refine r_exit rfl ?_
      refine r_seq ?_
      refine r_region' ?_
      refine l_q (q_move (v := .string _) rfl rfl) ?_
      refine l_q (q_assign (v := .string _) rfl rfl) ?_
      refine l_nil ?_
      refine r_forget [(4, .string _)] ⟨rfl, trivial⟩ (fun e19 => ?_)
      refine r_ret_ (vs := [.string _]) rfl Try.func32 rfl (.nil _) ⟨rfl, trivial⟩ ?_
      exact ⟨vstr_eq (by rw [hout, List.take_of_length_le (by omega)]), Ext.of_below hB⟩
end Go.Proofs.Ytfbjllabgkabkaa
