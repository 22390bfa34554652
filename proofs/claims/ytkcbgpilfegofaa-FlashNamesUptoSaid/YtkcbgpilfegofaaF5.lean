/- Contracts. -/
import Derived.Test.YtkcbgpilfegofaaF4
import Derived.Test.YtkcbgpilfegofaaGvSlc
set_option linter.unusedVariables false
set_option linter.unusedSimpArgs false
namespace Go.Proofs.Ytkcbgpilfegofaa
open Go Go.RowKit Go.Gv Go.Fl

def lexLt : List Int → List Int → Bool
  | [], ys => !ys.isEmpty
  | _ :: _, [] => false
  | x :: xs, y :: ys => if x = y then lexLt xs ys else decide (x < y)
theorem drop_getD {α : Type} {l : List α} {d : α} {k : Nat} (h : k < l.length) : l.drop k = l.getD k d :: l.drop (k + 1) := by
  rw [List.drop_eq_getElem_cons h, List.getD_eq_getElem?_getD, List.getElem?_eq_getElem h]; rfl
theorem lexLt_step {xs ys : List Int} {k : Nat} (h1 : k < xs.length) (h2 : k < ys.length) (h : xs.getD k 0 = ys.getD k 0) : lexLt (xs.drop k) (ys.drop k) = lexLt (xs.drop (k + 1)) (ys.drop (k + 1)) := by
  rw [drop_getD (d := 0) h1, drop_getD (d := 0) h2, lexLt, if_pos h]
theorem lexLt_diff {xs ys : List Int} {k : Nat} (h1 : k < xs.length) (h2 : k < ys.length) (h : ¬ xs.getD k 0 = ys.getD k 0) : lexLt (xs.drop k) (ys.drop k) = decide (xs.getD k 0 < ys.getD k 0) := by
  rw [drop_getD (d := 0) h1, drop_getD (d := 0) h2, lexLt, if_neg h]
theorem lexLt_end {xs ys : List Int} {k : Nat} (h : (k ≤ xs.length ∧ k ≤ ys.length) ∧ (k = xs.length ∨ k = ys.length)) : lexLt (xs.drop k) (ys.drop k) = decide ((xs.length : Int) < ys.length) := by
  by_cases h1 : k = xs.length
  · rw [List.drop_eq_nil_of_le (show xs.length ≤ k by omega), lexLt]
    by_cases h2 : k = ys.length
    · rw [List.drop_eq_nil_of_le (show ys.length ≤ k by omega)]; symm; simp; omega
    · rw [drop_getD (d := 0) (l := ys) (by omega)]; symm; simp; omega
  · rw [drop_getD (d := 0) (l := xs) (by omega), List.drop_eq_nil_of_le (show ys.length ≤ k by omega), lexLt]; symm; simp; omega
theorem sv_contains (L : List SV) (ys : List Int) : (L.map (·.xs)).contains ys = L.any (fun s => decide (s.xs = ys)) := by
  rw [Bool.eq_iff_iff, List.any_eq_true, List.contains_iff_mem, List.mem_map]
  simp
theorem sv_maps {L M : List SV} : L.map (·.xs) = M.map (·.xs) ↔ L.length = M.length ∧ ∀ j, j < L.length → (L.getD j sv0).xs = (M.getD j sv0).xs := by
  constructor
  · intro h
    have hl : L.length = M.length := by simpa using congrArg List.length h
    refine ⟨hl, fun j hj => ?_⟩
    have := congrArg (fun l => l[j]?) h
    simp only [List.getElem?_map, List.getElem?_eq_getElem hj, List.getElem?_eq_getElem (hl ▸ hj), Option.map_some, Option.some.injEq] at this
    simpa [List.getD_eq_getElem?_getD, List.getElem?_eq_getElem hj, List.getElem?_eq_getElem (hl ▸ hj)] using this
  · rintro ⟨hl, h⟩
    apply List.ext_getElem (by simpa using hl)
    intro i h1 h2
    have h1 : i < L.length := by simpa using h1
    have h2 : i < M.length := by simpa using h2
    have := h i h1
    simpa [List.getD_eq_getElem?_getD, List.getElem?_eq_getElem h1, List.getElem?_eq_getElem h2] using this
theorem rev_step {s : Sg} {k : Nat} (h : k < s.length) : (s.take (k + 1)).drop k ++ (s.take k).reverse = (s.take (k + 1)).reverse := by
  rw [List.take_add_one, List.getElem?_eq_getElem h, Option.toList_some, List.reverse_append, List.drop_append, List.drop_eq_nil_of_le (by rw [List.length_take]; omega)]
  have : k - (s.take k).length = 0 := by rw [List.length_take]; omega
  rw [this]; simp
def shortL (l : List (List Int)) : Bool := decide (l.length ≤ 70) && l.all (fun t => decide (t.length ≤ 9))
theorem short_bad {L : List SV} {k : Nat} (hk : k < L.length) (_h7 : k ≤ 71) (h : 9 < (L.getD k sv0).xs.length) : shortL (L.map (·.xs)) = false := by
  unfold shortL
  rw [Bool.and_eq_false_iff]; right
  rw [List.all_eq_false]
  exact ⟨(L.getD k sv0).xs, List.mem_map.2 ⟨_, getD_lt hk, rfl⟩, by simp only [decide_eq_true_eq]; omega⟩
theorem short_end {L : List SV} {k : Nat} (hk : k ≤ L.length) (h7 : k = L.length ∨ k = 71) (h : ∀ j, j < k → (L.getD j sv0).xs.length ≤ 9) : shortL (L.map (·.xs)) = decide ((L.length : Int) ≤ 70) := by
  unfold shortL
  by_cases h70 : L.length ≤ 70
  · have : k = L.length := by omega
    subst this
    rw [List.all_map, all_getD (d := sv0) (l := L) (p := (fun t => decide (t.length ≤ 9)) ∘ (·.xs)) (fun j hj => by simpa using h j hj)]
    rw [List.length_map, Bool.and_true, decide_eq_true h70, decide_eq_true (by omega)]
  · simp [h70]; omega


theorem same_ret (xa : Option Addr) (xc : Nat) (xs : List Int) (ya : Option Addr) (yc : Nat) (ys : List Int) (w : World) (hx : Row w xa xs.length xc 1 (xs.map vint)) (hxn : xs.length ≤ 2097152) (hy : Row w ya ys.length yc 1 (ys.map vint)) (hyn : ys.length ≤ 2097152) : Ret Try.prog 30 [.slice xa xs.length xc, .slice ya ys.length yc] w (fun v w' => v = .bool (decide (xs = ys)) ∧ Ext w w') := by
  have hB := Below.refl w.heap.size w
  have hsz : w.heap.size ≤ w.heap.size := Nat.le_refl _
  refine ret_of_runs (args := [_, _]) Try.func30 rfl (Nat.le_of_ble_eq_true rfl) (by kernel_rfl) ?_
  refine r_seq ?_
  refine r_region' ?_
  refine l_q (q_assign (v := .bool _) rfl rfl) ?_
  refine l_nil ?_
  refine r_forget [(0, .slice _ _ _), (1, .slice _ _ _)] ⟨rfl, rfl, trivial⟩ (fun e1 => ?_)
  refine r_seq ?_
  refine r_seq ?_
  refine r_region' ?_
  refine l_q (q_move (v := .slice _ _ _) rfl rfl) ?_
  refine l_q (q_len rfl Try.underlying25 rfl rfl) ?_
  refine l_q (q_move (v := .slice _ _ _) rfl rfl) ?_
  refine l_q (q_len rfl Try.underlying25 rfl rfl) ?_
  refine l_q (q_neq rfl rfl rfl) ?_
  refine l_nil ?_
  refine r_forget [(0, .slice _ _ _), (1, .slice _ _ _), (10, .bool _)] ⟨rfl, rfl, rfl, trivial⟩ (fun e2 => ?_)
  refine r_cond rfl (fun hc3 => ?_) (fun hc3 => ?_)
  · skip
    try simp only [decide_eq_true_eq, decide_eq_false_iff_not, Bool.not_eq_true', Bool.not_eq_false', Bool.not_not, Bool.not_true, Bool.not_false, Bool.not_eq_true, Bool.not_eq_false, Int.not_lt, Int.not_le, Bool.and_eq_true, Bool.or_eq_true, Bool.and_eq_false_iff, Bool.or_eq_false_iff] at hc3
    refine r_seq ?_
    refine r_region' ?_
    refine l_q (q_assign (v := .bool _) rfl rfl) ?_
    refine l_nil ?_
    refine r_forget [(4, .bool _)] ⟨rfl, trivial⟩ (fun e4 => ?_)
    refine r_ret_ (vs := [.bool _]) rfl Try.func30 rfl (.nil _) ⟨rfl, trivial⟩ ?_
    exact ⟨vbool_eq (by symm; rw [decide_eq_false_iff_not]; intro h; subst h; omega), Ext.of_below hB⟩
  · skip
    try simp only [decide_eq_true_eq, decide_eq_false_iff_not, Bool.not_eq_true', Bool.not_eq_false', Bool.not_not, Bool.not_true, Bool.not_false, Bool.not_eq_true, Bool.not_eq_false, Int.not_lt, Int.not_le, Bool.and_eq_true, Bool.or_eq_true, Bool.and_eq_false_iff, Bool.or_eq_false_iff] at hc3
    refine r_skip ?_
    refine r_seq ?_
    refine r_seq ?_
    refine r_region' ?_
    refine l_q (q_assign (v := .int _ _) rfl rfl) ?_
    refine l_nil ?_
    refine r_forget [(0, .slice _ _ _), (1, .slice _ _ _), (5, .int _ _)] ⟨rfl, rfl, rfl, trivial⟩ (fun e5 => ?_)
    refine r_block ?_
    refine r_rounds (α := Nat) (fun k e wl => Knows e [(0, .slice xa xs.length xc), (1, .slice ya ys.length yc), (5, vint (k : Int))] ∧ (k ≤ xs.length) ∧ (∀ j, j < k → xs.getD j 0 = ys.getD j 0) ∧ (xs.length = ys.length) ∧ (w.heap.size ≤ wl.heap.size) ∧ (Below w.heap.size w wl)) (fun k => xs.length - k) 0 ?_ ?_
    · skip
      exact ⟨⟨rfl, rfl, rfl, trivial⟩, (Nat.zero_le _), (fun i hi => absurd hi (Nat.not_lt_zero _)), (by omega), hsz, hB⟩
    · skip
      rintro k el6 wl6 ⟨hkn, hkk, hq, hlen, hsz, hB⟩ ih6
      obtain ⟨e6, rfl⟩ := knows_env hkn
      refine r_seq ?_
      refine r_seq ?_
      refine r_region' ?_
      refine l_q (q_move (v := .int _ _) rfl rfl) ?_
      refine l_q (q_move (v := .slice _ _ _) rfl rfl) ?_
      refine l_q (q_len rfl Try.underlying25 rfl rfl) ?_
      refine l_q (q_lss rfl rfl rfl) ?_
      refine l_nil ?_
      refine r_forget [(0, .slice _ _ _), (1, .slice _ _ _), (5, .int _ _), (14, .bool _)] ⟨rfl, rfl, rfl, rfl, trivial⟩ (fun e7 => ?_)
      refine r_cond rfl (fun hc8 => ?_) (fun hc8 => ?_)
      · skip
        try simp only [decide_eq_true_eq, decide_eq_false_iff_not, Bool.not_eq_true', Bool.not_eq_false', Bool.not_not, Bool.not_true, Bool.not_false, Bool.not_eq_true, Bool.not_eq_false, Int.not_lt, Int.not_le, Bool.and_eq_true, Bool.or_eq_true, Bool.and_eq_false_iff, Bool.or_eq_false_iff] at hc8
        refine r_skip ?_
        refine r_seq ?_
        refine r_block ?_
        refine r_seq ?_
        refine r_draw ext_refl' ext_trans' [0, 1, 2, 3, 4, 5, 6, 7, 8] [] 2 (by kernel_rfl) (by kernel_rfl) ?_
        intro w9 _ hE9
        replace hB := below_ext hB hE9 hsz
        replace hsz := Nat.le_trans hsz hE9.size
        refine m_q rfl rfl (fun w' hC' => q_move (v := .slice _ _ _) rfl rfl) ?_
        refine m_q rfl rfl (fun w' hC' => q_move (v := .int _ _) rfl rfl) ?_
        obtain ⟨b10, o10, ha10, hh10⟩ := (hx.below hB).at1 k ((xs).getD k 0) (getD_some (by omega))
        refine m_q rfl rfl (fun w' hC' => q_indexAddr1 Try.underlying25 Try.sizeOf3 rfl ha10 rfl (by omega) rfl) ?_
        refine m_q rfl rfl (fun w' hC' => q_load Try.isAgg3 rfl ((hh10.ext hC')) rfl) ?_
        refine m_q rfl rfl (fun w' hC' => q_move (v := .slice _ _ _) rfl rfl) ?_
        refine m_q rfl rfl (fun w' hC' => q_move (v := .int _ _) rfl rfl) ?_
        obtain ⟨b11, o11, ha11, hh11⟩ := (hy.below hB).at1 k ((ys).getD k 0) (getD_some (by omega))
        refine m_q rfl rfl (fun w' hC' => q_indexAddr1 Try.underlying25 Try.sizeOf3 rfl ha11 rfl (by omega) rfl) ?_
        refine m_q rfl rfl (fun w' hC' => q_load Try.isAgg3 rfl ((hh11.ext hC')) rfl) ?_
        refine m_q rfl rfl (fun w' hC' => q_neq rfl rfl rfl) ?_
        refine m_nil ?_
        refine r_forget [(0, .slice _ _ _), (1, .slice _ _ _), (5, .int _ _), (25, .bool _)] ⟨rfl, rfl, rfl, rfl, trivial⟩ (fun e12 => ?_)
        refine r_cond rfl (fun hc13 => ?_) (fun hc13 => ?_)
        · skip
          try simp only [decide_eq_true_eq, decide_eq_false_iff_not, Bool.not_eq_true', Bool.not_eq_false', Bool.not_not, Bool.not_true, Bool.not_false, Bool.not_eq_true, Bool.not_eq_false, Int.not_lt, Int.not_le, Bool.and_eq_true, Bool.or_eq_true, Bool.and_eq_false_iff, Bool.or_eq_false_iff] at hc13
          refine r_seq ?_
          refine r_region' ?_
          refine l_q (q_assign (v := .bool _) rfl rfl) ?_
          refine l_nil ?_
          refine r_forget [(4, .bool _)] ⟨rfl, trivial⟩ (fun e14 => ?_)
          refine r_ret_ (vs := [.bool _]) rfl Try.func30 rfl (.nil _) ⟨rfl, trivial⟩ ?_
          exact ⟨vbool_eq (by symm; rw [decide_eq_false_iff_not]; intro h; subst h; simp_all), Ext.of_below hB⟩
        · skip
          try simp only [decide_eq_true_eq, decide_eq_false_iff_not, Bool.not_eq_true', Bool.not_eq_false', Bool.not_not, Bool.not_true, Bool.not_false, Bool.not_eq_true, Bool.not_eq_false, Int.not_lt, Int.not_le, Bool.and_eq_true, Bool.or_eq_true, Bool.and_eq_false_iff, Bool.or_eq_false_iff] at hc13
          refine r_skip ?_
          refine r_inBlock ?_
          refine r_region' ?_
          refine l_q (q_move (v := .int _ _) rfl rfl) ?_
          refine l_q (q_add rfl rfl (by omega) rfl) ?_
          refine l_q (q_assign (v := .int _ _) rfl rfl) ?_
          refine l_nil ?_
          refine r_forget [(0, .slice _ _ _), (1, .slice _ _ _), (5, .int _ _)] ⟨rfl, rfl, rfl, trivial⟩ (fun e15 => ?_)
          exact ih6 (k + 1) _ _ ⟨⟨rfl, rfl, by first | rfl | exact vint_eq (by omega), trivial⟩, (by omega), (fun j hj => by rcases Nat.lt_succ_iff_lt_or_eq.1 hj with h | h; exact hq j h; subst h; assumption), hlen, hsz, hB⟩ (by first | omega | (dsimp only; omega))
      · skip
        try simp only [decide_eq_true_eq, decide_eq_false_iff_not, Bool.not_eq_true', Bool.not_eq_false', Bool.not_not, Bool.not_true, Bool.not_false, Bool.not_eq_true, Bool.not_eq_false, Int.not_lt, Int.not_le, Bool.and_eq_true, Bool.or_eq_true, Bool.and_eq_false_iff, Bool.or_eq_false_iff] at hc8
        refine r_exit rfl ?_
        refine r_seq ?_
        refine r_region' ?_
        refine l_q (q_assign (v := .bool _) rfl rfl) ?_
        refine l_nil ?_
        refine r_forget [(4, .bool _)] ⟨rfl, trivial⟩ (fun e16 => ?_)
        refine r_ret_ (vs := [.bool _]) rfl Try.func30 rfl (.nil _) ⟨rfl, trivial⟩ ?_
        exact ⟨vbool_eq (by symm; rw [decide_eq_true_eq]; exact ext_getD hlen (fun j hj => hq j (by omega))), Ext.of_below hB⟩
theorem before_ret (xa : Option Addr) (xc : Nat) (xs : List Int) (ya : Option Addr) (yc : Nat) (ys : List Int) (w : World) (hx : Row w xa xs.length xc 1 (xs.map vint)) (hxn : xs.length ≤ 2097152) (hy : Row w ya ys.length yc 1 (ys.map vint)) (hyn : ys.length ≤ 2097152) : Ret Try.prog 74 [.slice xa xs.length xc, .slice ya ys.length yc] w (fun v w' => v = .bool (lexLt xs ys) ∧ Ext w w') := by
  have hB := Below.refl w.heap.size w
  have hsz : w.heap.size ≤ w.heap.size := Nat.le_refl _
  refine ret_of_runs (args := [_, _]) Try.func74 rfl (Nat.le_of_ble_eq_true rfl) (by kernel_rfl) ?_
  refine r_seq ?_
  refine r_region' ?_
  refine l_q (q_assign (v := .bool _) rfl rfl) ?_
  refine l_nil ?_
  refine r_forget [(0, .slice _ _ _), (1, .slice _ _ _)] ⟨rfl, rfl, trivial⟩ (fun e1 => ?_)
  refine r_seq ?_
  refine r_seq ?_
  refine r_region' ?_
  refine l_q (q_assign (v := .int _ _) rfl rfl) ?_
  refine l_nil ?_
  refine r_block ?_
  refine r_rounds (α := Nat) (fun k e wl => Knows e [(0, .slice xa xs.length xc), (1, .slice ya ys.length yc), (5, vint (k : Int))] ∧ (k ≤ xs.length) ∧ (k ≤ ys.length) ∧ (lexLt xs ys = lexLt (xs.drop k) (ys.drop k)) ∧ (w.heap.size ≤ wl.heap.size) ∧ (Below w.heap.size w wl)) (fun k => xs.length - k) 0 ?_ ?_
  · skip
    exact ⟨⟨rfl, rfl, rfl, trivial⟩, (Nat.zero_le _), (by omega), rfl, hsz, hB⟩
  · skip
    rintro k el2 wl2 ⟨hkn, hkk, hky, hq, hsz, hB⟩ ih2
    obtain ⟨e2, rfl⟩ := knows_env hkn
    refine r_seq ?_
    refine r_seq ?_
    refine r_region' ?_
    refine l_q (q_move (v := .int _ _) rfl rfl) ?_
    refine l_q (q_move (v := .slice _ _ _) rfl rfl) ?_
    refine l_q (q_len rfl Try.underlying25 rfl rfl) ?_
    refine l_q (q_lss rfl rfl rfl) ?_
    refine l_q (q_move (v := .bool _) rfl rfl) ?_
    refine l_part 10 rfl (fun hc3 => ?_) (fun hc3 => ?_)
    · skip
      try simp only [decide_eq_true_eq, decide_eq_false_iff_not, Bool.not_eq_true', Bool.not_eq_false', Bool.not_not, Bool.not_true, Bool.not_false, Bool.not_eq_true, Bool.not_eq_false, Int.not_lt, Int.not_le, Bool.and_eq_true, Bool.or_eq_true, Bool.and_eq_false_iff, Bool.or_eq_false_iff] at hc3
      refine l_q (q_move (v := .int _ _) rfl rfl) ?_
      refine l_q (q_move (v := .slice _ _ _) rfl rfl) ?_
      refine l_q (q_len rfl Try.underlying25 rfl rfl) ?_
      refine l_q (q_lss rfl rfl rfl) ?_
      refine l_q (q_pick_t (v := .bool _) rfl rfl rfl) ?_
      refine l_nil ?_
      refine r_forget [(0, .slice _ _ _), (1, .slice _ _ _), (5, .int _ _), (15, .bool _)] ⟨rfl, rfl, rfl, rfl, trivial⟩ (fun e4 => ?_)
      refine r_cond rfl (fun hc5 => ?_) (fun hc5 => ?_)
      · skip
        try simp only [decide_eq_true_eq, decide_eq_false_iff_not, Bool.not_eq_true', Bool.not_eq_false', Bool.not_not, Bool.not_true, Bool.not_false, Bool.not_eq_true, Bool.not_eq_false, Int.not_lt, Int.not_le, Bool.and_eq_true, Bool.or_eq_true, Bool.and_eq_false_iff, Bool.or_eq_false_iff] at hc5
        refine r_skip ?_
        refine r_seq ?_
        refine r_block ?_
        refine r_seq ?_
        refine r_draw ext_refl' ext_trans' [0, 1, 2, 3, 4, 5, 6, 7, 8] [] 2 (by kernel_rfl) (by kernel_rfl) ?_
        intro w6 _ hE6
        replace hB := below_ext hB hE6 hsz
        replace hsz := Nat.le_trans hsz hE6.size
        refine m_q rfl rfl (fun w' hC' => q_move (v := .slice _ _ _) rfl rfl) ?_
        refine m_q rfl rfl (fun w' hC' => q_move (v := .int _ _) rfl rfl) ?_
        obtain ⟨b7, o7, ha7, hh7⟩ := (hx.below hB).at1 k ((xs).getD k 0) (getD_some (by omega))
        refine m_q rfl rfl (fun w' hC' => q_indexAddr1 Try.underlying25 Try.sizeOf3 rfl ha7 rfl (by omega) rfl) ?_
        refine m_q rfl rfl (fun w' hC' => q_load Try.isAgg3 rfl ((hh7.ext hC')) rfl) ?_
        refine m_q rfl rfl (fun w' hC' => q_move (v := .slice _ _ _) rfl rfl) ?_
        refine m_q rfl rfl (fun w' hC' => q_move (v := .int _ _) rfl rfl) ?_
        obtain ⟨b8, o8, ha8, hh8⟩ := (hy.below hB).at1 k ((ys).getD k 0) (getD_some (by omega))
        refine m_q rfl rfl (fun w' hC' => q_indexAddr1 Try.underlying25 Try.sizeOf3 rfl ha8 rfl (by omega) rfl) ?_
        refine m_q rfl rfl (fun w' hC' => q_load Try.isAgg3 rfl ((hh8.ext hC')) rfl) ?_
        refine m_q rfl rfl (fun w' hC' => q_neq rfl rfl rfl) ?_
        refine m_nil ?_
        refine r_forget [(0, .slice _ _ _), (1, .slice _ _ _), (5, .int _ _), (26, .bool _)] ⟨rfl, rfl, rfl, rfl, trivial⟩ (fun e9 => ?_)
        refine r_cond rfl (fun hc10 => ?_) (fun hc10 => ?_)
        · skip
          try simp only [decide_eq_true_eq, decide_eq_false_iff_not, Bool.not_eq_true', Bool.not_eq_false', Bool.not_not, Bool.not_true, Bool.not_false, Bool.not_eq_true, Bool.not_eq_false, Int.not_lt, Int.not_le, Bool.and_eq_true, Bool.or_eq_true, Bool.and_eq_false_iff, Bool.or_eq_false_iff] at hc10
          refine r_seq ?_
          refine r_draw ext_refl' ext_trans' [0, 1, 2, 3, 4, 5, 6, 7, 8, 9] [] 2 (by kernel_rfl) (by kernel_rfl) ?_
          intro w11 _ hE11
          replace hB := below_ext hB hE11 hsz
          replace hsz := Nat.le_trans hsz hE11.size
          refine m_q rfl rfl (fun w' hC' => q_move (v := .slice _ _ _) rfl rfl) ?_
          refine m_q rfl rfl (fun w' hC' => q_move (v := .int _ _) rfl rfl) ?_
          obtain ⟨b12, o12, ha12, hh12⟩ := (hx.below hB).at1 k ((xs).getD k 0) (getD_some (by omega))
          refine m_q rfl rfl (fun w' hC' => q_indexAddr1 Try.underlying25 Try.sizeOf3 rfl ha12 rfl (by omega) rfl) ?_
          refine m_q rfl rfl (fun w' hC' => q_load Try.isAgg3 rfl ((hh12.ext hC')) rfl) ?_
          refine m_q rfl rfl (fun w' hC' => q_move (v := .slice _ _ _) rfl rfl) ?_
          refine m_q rfl rfl (fun w' hC' => q_move (v := .int _ _) rfl rfl) ?_
          obtain ⟨b13, o13, ha13, hh13⟩ := (hy.below hB).at1 k ((ys).getD k 0) (getD_some (by omega))
          refine m_q rfl rfl (fun w' hC' => q_indexAddr1 Try.underlying25 Try.sizeOf3 rfl ha13 rfl (by omega) rfl) ?_
          refine m_q rfl rfl (fun w' hC' => q_load Try.isAgg3 rfl ((hh13.ext hC')) rfl) ?_
          refine m_q rfl rfl (fun w' hC' => q_lss rfl rfl rfl) ?_
          refine m_q rfl rfl (fun w' hC' => q_assign (v := .bool _) rfl rfl) ?_
          refine m_nil ?_
          refine r_forget [(4, .bool _)] ⟨rfl, trivial⟩ (fun e14 => ?_)
          refine r_ret_ (vs := [.bool _]) rfl Try.func74 rfl (.nil _) ⟨rfl, trivial⟩ ?_
          exact ⟨vbool_eq (by rw [hq]; exact (lexLt_diff (by omega) (by omega) (by assumption)).symm), Ext.of_below hB⟩
        · skip
          try simp only [decide_eq_true_eq, decide_eq_false_iff_not, Bool.not_eq_true', Bool.not_eq_false', Bool.not_not, Bool.not_true, Bool.not_false, Bool.not_eq_true, Bool.not_eq_false, Int.not_lt, Int.not_le, Bool.and_eq_true, Bool.or_eq_true, Bool.and_eq_false_iff, Bool.or_eq_false_iff] at hc10
          refine r_skip ?_
          refine r_inBlock ?_
          refine r_region' ?_
          refine l_q (q_move (v := .int _ _) rfl rfl) ?_
          refine l_q (q_add rfl rfl (by omega) rfl) ?_
          refine l_q (q_assign (v := .int _ _) rfl rfl) ?_
          refine l_nil ?_
          refine r_forget [(0, .slice _ _ _), (1, .slice _ _ _), (5, .int _ _)] ⟨rfl, rfl, rfl, trivial⟩ (fun e15 => ?_)
          exact ih2 (k + 1) _ _ ⟨⟨rfl, rfl, by first | rfl | exact vint_eq (by omega), trivial⟩, (by omega), (by omega), (by rw [hq]; exact lexLt_step (by omega) (by omega) (by omega)), hsz, hB⟩ (by first | omega | (dsimp only; omega))
      · skip
        try simp only [decide_eq_true_eq, decide_eq_false_iff_not, Bool.not_eq_true', Bool.not_eq_false', Bool.not_not, Bool.not_true, Bool.not_false, Bool.not_eq_true, Bool.not_eq_false, Int.not_lt, Int.not_le, Bool.and_eq_true, Bool.or_eq_true, Bool.and_eq_false_iff, Bool.or_eq_false_iff] at hc5
        refine r_exit rfl ?_
        refine r_seq ?_
        refine r_region' ?_
        refine l_q (q_move (v := .slice _ _ _) rfl rfl) ?_
        refine l_q (q_len rfl Try.underlying25 rfl rfl) ?_
        refine l_q (q_move (v := .slice _ _ _) rfl rfl) ?_
        refine l_q (q_len rfl Try.underlying25 rfl rfl) ?_
        refine l_q (q_lss rfl rfl rfl) ?_
        refine l_q (q_assign (v := .bool _) rfl rfl) ?_
        refine l_nil ?_
        refine r_forget [(4, .bool _)] ⟨rfl, trivial⟩ (fun e16 => ?_)
        refine r_ret_ (vs := [.bool _]) rfl Try.func74 rfl (.nil _) ⟨rfl, trivial⟩ ?_
        exact ⟨vbool_eq (by rw [hq]; exact (lexLt_end (by omega)).symm), Ext.of_below hB⟩
    · skip
      try simp only [decide_eq_true_eq, decide_eq_false_iff_not, Bool.not_eq_true', Bool.not_eq_false', Bool.not_not, Bool.not_true, Bool.not_false, Bool.not_eq_true, Bool.not_eq_false, Int.not_lt, Int.not_le, Bool.and_eq_true, Bool.or_eq_true, Bool.and_eq_false_iff, Bool.or_eq_false_iff] at hc3
      refine l_q (q_skip rfl) ?_
      refine l_q (q_skip rfl) ?_
      refine l_q (q_skip rfl) ?_
      refine l_q (q_skip rfl) ?_
      refine l_q (q_pick_f (v := .bool _) rfl rfl rfl) ?_
      refine l_nil ?_
      refine r_forget [(0, .slice _ _ _), (1, .slice _ _ _), (5, .int _ _), (15, .bool _)] ⟨rfl, rfl, rfl, rfl, trivial⟩ (fun e17 => ?_)
      refine r_cond_f rfl ?_
      refine r_exit rfl ?_
      refine r_seq ?_
      refine r_region' ?_
      refine l_q (q_move (v := .slice _ _ _) rfl rfl) ?_
      refine l_q (q_len rfl Try.underlying25 rfl rfl) ?_
      refine l_q (q_move (v := .slice _ _ _) rfl rfl) ?_
      refine l_q (q_len rfl Try.underlying25 rfl rfl) ?_
      refine l_q (q_lss rfl rfl rfl) ?_
      refine l_q (q_assign (v := .bool _) rfl rfl) ?_
      refine l_nil ?_
      refine r_forget [(4, .bool _)] ⟨rfl, trivial⟩ (fun e18 => ?_)
      refine r_ret_ (vs := [.bool _]) rfl Try.func74 rfl (.nil _) ⟨rfl, trivial⟩ ?_
      exact ⟨vbool_eq (by rw [hq]; exact (lexLt_end (by omega)).symm), Ext.of_below hB⟩
theorem lhas_ret (la : Option Addr) (lc : Nat) (L : List SV) (ya : Option Addr) (yc : Nat) (ys : List Int) (w : World) (hl : Row w la L.length lc 1 (L.map SV.enc)) (hlr : RowsI w L) (hln : L.length ≤ 2097152) (hle : ∀ s ∈ L, s.xs.length ≤ 2097152) (hy : Row w ya ys.length yc 1 (ys.map vint)) (hyn : ys.length ≤ 2097152) : Ret Try.prog 42 [.slice la L.length lc, .slice ya ys.length yc] w (fun v w' => v = .bool ((L.map (·.xs)).contains ys) ∧ Ext w w') := by
  have hB := Below.refl w.heap.size w
  have hsz : w.heap.size ≤ w.heap.size := Nat.le_refl _
  refine ret_of_runs (args := [_, _]) Try.func42 rfl (Nat.le_of_ble_eq_true rfl) (by kernel_rfl) ?_
  refine r_seq ?_
  refine r_region' ?_
  refine l_q (q_assign (v := .bool _) rfl rfl) ?_
  refine l_nil ?_
  refine r_forget [(0, .slice _ _ _), (1, .slice _ _ _)] ⟨rfl, rfl, trivial⟩ (fun e1 => ?_)
  refine r_seq ?_
  refine r_seq ?_
  refine r_region' ?_
  refine l_q (q_assign (v := .int _ _) rfl rfl) ?_
  refine l_nil ?_
  refine r_block ?_
  refine r_rounds (α := Nat) (fun k e wl => Knows e [(0, .slice la L.length lc), (1, .slice ya ys.length yc), (5, vint (k : Int))] ∧ (k ≤ L.length) ∧ (∀ j, j < k → decide ((L.getD j sv0).xs = ys) = false) ∧ (w.heap.size ≤ wl.heap.size) ∧ (Below w.heap.size w wl)) (fun k => L.length - k) 0 ?_ ?_
  · skip
    exact ⟨⟨rfl, rfl, rfl, trivial⟩, (Nat.zero_le _), (fun i hi => absurd hi (Nat.not_lt_zero _)), hsz, hB⟩
  · skip
    rintro k el2 wl2 ⟨hkn, hkk, hq, hsz, hB⟩ ih2
    obtain ⟨e2, rfl⟩ := knows_env hkn
    refine r_seq ?_
    refine r_seq ?_
    refine r_region' ?_
    refine l_q (q_move (v := .int _ _) rfl rfl) ?_
    refine l_q (q_move (v := .slice _ _ _) rfl rfl) ?_
    refine l_q (q_len rfl Try.underlying48 rfl rfl) ?_
    refine l_q (q_lss rfl rfl rfl) ?_
    refine l_nil ?_
    refine r_forget [(0, .slice _ _ _), (1, .slice _ _ _), (5, .int _ _), (9, .bool _)] ⟨rfl, rfl, rfl, rfl, trivial⟩ (fun e3 => ?_)
    refine r_cond rfl (fun hc4 => ?_) (fun hc4 => ?_)
    · skip
      try simp only [decide_eq_true_eq, decide_eq_false_iff_not, Bool.not_eq_true', Bool.not_eq_false', Bool.not_not, Bool.not_true, Bool.not_false, Bool.not_eq_true, Bool.not_eq_false, Int.not_lt, Int.not_le, Bool.and_eq_true, Bool.or_eq_true, Bool.and_eq_false_iff, Bool.or_eq_false_iff] at hc4
      have hkl : k < L.length := by omega
      have hel := hle _ (getD_lt (d := sv0) hkl)
      refine r_skip ?_
      refine r_seq ?_
      refine r_block ?_
      refine r_seq ?_
      refine r_region' ?_
      refine l_q (q_move (v := .slice _ _ _) rfl rfl) ?_
      refine l_q (q_move (v := .int _ _) rfl rfl) ?_
      have hr6 := (hlr.below hB).get (i := k) (by omega)
      obtain ⟨b5, o5, ha5, hh5⟩ := (hl.below hB).at1 k ((L).getD k sv0) (getD_some (by omega))
      refine l_q (q_indexAddr1 Try.underlying48 Try.sizeOf25 rfl ha5 rfl (by omega) rfl) ?_
      refine l_q (q_load Try.isAgg25 rfl (hh5) rfl) ?_
      refine l_q (q_move (v := .slice _ _ _) rfl rfl) ?_
      refine l_o (o_call Try.call30 rfl (same_ret _ _ (((L).getD k sv0).xs) _ _ ys _ hr6 (by omega) (hy.below hB) (by omega)) rfl ?_)
      rintro _ w7 ⟨rfl, hE7⟩
      replace hB := below_ext hB hE7 hsz
      replace hr6 := hr6.ext hE7
      replace hsz := Nat.le_trans hsz hE7.size
      refine l_nil ?_
      refine r_forget [(0, .slice _ _ _), (1, .slice _ _ _), (5, .int _ _), (17, .bool _)] ⟨rfl, rfl, rfl, rfl, trivial⟩ (fun e8 => ?_)
      refine r_cond rfl (fun hc9 => ?_) (fun hc9 => ?_)
      · skip
        try simp only [decide_eq_true_eq, decide_eq_false_iff_not, Bool.not_eq_true', Bool.not_eq_false', Bool.not_not, Bool.not_true, Bool.not_false, Bool.not_eq_true, Bool.not_eq_false, Int.not_lt, Int.not_le, Bool.and_eq_true, Bool.or_eq_true, Bool.and_eq_false_iff, Bool.or_eq_false_iff] at hc9
        refine r_seq ?_
        refine r_region' ?_
        refine l_q (q_assign (v := .bool _) rfl rfl) ?_
        refine l_nil ?_
        refine r_forget [(4, .bool _)] ⟨rfl, trivial⟩ (fun e10 => ?_)
        refine r_ret_ (vs := [.bool _]) rfl Try.func42 rfl (.nil _) ⟨rfl, trivial⟩ ?_
        exact ⟨vbool_eq (by symm; rw [sv_contains]; exact any_found (d := sv0) (k := k) (by omega) (by simpa using (by assumption))), Ext.of_below hB⟩
      · skip
        try simp only [decide_eq_true_eq, decide_eq_false_iff_not, Bool.not_eq_true', Bool.not_eq_false', Bool.not_not, Bool.not_true, Bool.not_false, Bool.not_eq_true, Bool.not_eq_false, Int.not_lt, Int.not_le, Bool.and_eq_true, Bool.or_eq_true, Bool.and_eq_false_iff, Bool.or_eq_false_iff] at hc9
        refine r_skip ?_
        refine r_inBlock ?_
        refine r_region' ?_
        refine l_q (q_move (v := .int _ _) rfl rfl) ?_
        refine l_q (q_add rfl rfl (by omega) rfl) ?_
        refine l_q (q_assign (v := .int _ _) rfl rfl) ?_
        refine l_nil ?_
        refine r_forget [(0, .slice _ _ _), (1, .slice _ _ _), (5, .int _ _)] ⟨rfl, rfl, rfl, trivial⟩ (fun e11 => ?_)
        exact ih2 (k + 1) _ _ ⟨⟨rfl, rfl, by first | rfl | exact vint_eq (by omega), trivial⟩, (by omega), (fun j hj => by rcases Nat.lt_succ_iff_lt_or_eq.1 hj with h | h; exact hq j h; subst h; first | assumption | (rw [decide_eq_false_iff_not]; assumption)), hsz, hB⟩ (by first | omega | (dsimp only; omega))
    · skip
      try simp only [decide_eq_true_eq, decide_eq_false_iff_not, Bool.not_eq_true', Bool.not_eq_false', Bool.not_not, Bool.not_true, Bool.not_false, Bool.not_eq_true, Bool.not_eq_false, Int.not_lt, Int.not_le, Bool.and_eq_true, Bool.or_eq_true, Bool.and_eq_false_iff, Bool.or_eq_false_iff] at hc4
      refine r_exit rfl ?_
      refine r_seq ?_
      refine r_region' ?_
      refine l_q (q_assign (v := .bool _) rfl rfl) ?_
      refine l_nil ?_
      refine r_forget [(4, .bool _)] ⟨rfl, trivial⟩ (fun e12 => ?_)
      refine r_ret_ (vs := [.bool _]) rfl Try.func42 rfl (.nil _) ⟨rfl, trivial⟩ ?_
      exact ⟨vbool_eq (by symm; rw [sv_contains]; exact any_none (d := sv0) (fun j hj => hq j (by omega))), Ext.of_below hB⟩
theorem turned_ret (s : Sg) (w : World) (hs : s.length ≤ 2097152) : Ret Try.prog 43 [vstr s] w (fun v w' => v = vstr s.reverse ∧ w = w') := by
  have hB := Below.refl w.heap.size w
  have hsz : w.heap.size ≤ w.heap.size := Nat.le_refl _
  refine ret_of_runs (args := [_]) Try.func43 rfl (Nat.le_of_ble_eq_true rfl) (by kernel_rfl) ?_
  refine r_seq ?_
  refine r_region' ?_
  refine l_q (q_assign (v := .string _) rfl rfl) ?_
  refine l_nil ?_
  refine r_forget [(0, .string _)] ⟨rfl, trivial⟩ (fun e1 => ?_)
  refine r_seq ?_
  refine r_region' ?_
  refine l_q (q_assign (v := .string _) rfl rfl) ?_
  refine l_nil ?_
  refine r_seq ?_
  refine r_seq ?_
  refine r_region' ?_
  refine l_q (q_assign (v := .int _ _) rfl rfl) ?_
  refine l_nil ?_
  refine r_block ?_
  refine r_rounds (α := Nat × Sg) (fun ⟨k, out⟩ e wl => Knows e [(0, vstr s), (3, vstr out), (4, vint (k : Int))] ∧ (k ≤ s.length) ∧ (out = (s.take k).reverse) ∧ (w = wl)) (fun ⟨k, out⟩ => s.length - k) (0, []) ?_ ?_
  · skip
    exact ⟨⟨rfl, rfl, rfl, trivial⟩, (Nat.zero_le _), rfl, rfl⟩
  · skip
    rintro ⟨k, out⟩ el2 wl2 ⟨hkn, hkk, hout, rfl⟩ ih2
    obtain ⟨e2, rfl⟩ := knows_env hkn
    refine r_seq ?_
    refine r_seq ?_
    refine r_region' ?_
    refine l_q (q_move (v := .int _ _) rfl rfl) ?_
    refine l_q (q_move (v := .string _) rfl rfl) ?_
    refine l_q (q_len_str rfl Try.underlying9 rfl rfl) ?_
    refine l_q (q_lss rfl rfl rfl) ?_
    refine l_nil ?_
    refine r_forget [(0, .string _), (3, .string _), (4, .int _ _), (8, .bool _)] ⟨rfl, rfl, rfl, rfl, trivial⟩ (fun e3 => ?_)
    refine r_cond rfl (fun hc4 => ?_) (fun hc4 => ?_)
    · skip
      try simp only [decide_eq_true_eq, decide_eq_false_iff_not, Bool.not_eq_true', Bool.not_eq_false', Bool.not_not, Bool.not_true, Bool.not_false, Bool.not_eq_true, Bool.not_eq_false, Int.not_lt, Int.not_le, Bool.and_eq_true, Bool.or_eq_true, Bool.and_eq_false_iff, Bool.or_eq_false_iff] at hc4
      have hol : out.length ≤ k := by rw [hout, List.length_reverse, List.length_take]; omega
      refine r_skip ?_
      refine r_seq ?_
      refine r_block ?_
      refine r_region' ?_
      refine l_q (q_move (v := .string _) rfl rfl) ?_
      refine l_q (q_move (v := .int _ _) rfl rfl) ?_
      refine l_q (q_move (v := .int _ _) rfl rfl) ?_
      refine l_q (q_add rfl rfl (by omega) rfl) ?_
      refine l_q (q_slice_str Try.underlying9 rfl rfl rfl (by omega) rfl) ?_
      refine l_q (q_move (v := .string _) rfl rfl) ?_
      refine l_q (q_add_str rfl rfl (by rw [List.length_drop, List.length_take]; omega) rfl) ?_
      refine l_q (q_assign (v := .string _) rfl rfl) ?_
      refine l_nil ?_
      refine r_forget [(0, .string _), (3, .string _), (4, .int _ _)] ⟨rfl, rfl, rfl, trivial⟩ (fun e5 => ?_)
      refine r_inBlock ?_
      refine r_region' ?_
      refine l_q (q_move (v := .int _ _) rfl rfl) ?_
      refine l_q (q_add rfl rfl (by omega) rfl) ?_
      refine l_q (q_assign (v := .int _ _) rfl rfl) ?_
      refine l_nil ?_
      refine r_forget [(0, .string _), (3, .string _), (4, .int _ _)] ⟨rfl, rfl, rfl, trivial⟩ (fun e6 => ?_)
      exact ih2 (k + 1, (((s).take ((k : Int) + 1).toNat).drop k) ++ out) _ _ ⟨⟨rfl, rfl, by first | rfl | exact vint_eq (by omega), trivial⟩, (by omega), (by rw [hout]; exact rev_step (by omega)), rfl⟩ (by first | omega | (dsimp only; omega))
    · skip
      try simp only [decide_eq_true_eq, decide_eq_false_iff_not, Bool.not_eq_true', Bool.not_eq_false', Bool.not_not, Bool.not_true, Bool.not_false, Bool.not_eq_true, Bool.not_eq_false, Int.not_lt, Int.not_le, Bool.and_eq_true, Bool.or_eq_true, Bool.and_eq_false_iff, Bool.or_eq_false_iff] at hc4
      refine r_exit rfl ?_
      refine r_seq ?_
      refine r_region' ?_
      refine l_q (q_move (v := .string _) rfl rfl) ?_
      refine l_q (q_assign (v := .string _) rfl rfl) ?_
      refine l_nil ?_
      refine r_forget [(2, .string _)] ⟨rfl, trivial⟩ (fun e7 => ?_)
      refine r_ret_ (vs := [.string _]) rfl Try.func43 rfl (.nil _) ⟨rfl, trivial⟩ ?_
      exact ⟨vstr_eq (by rw [hout, List.take_of_length_le (by omega)]), rfl⟩
theorem lsame_ret (la : Option Addr) (lc : Nat) (L : List SV) (ma : Option Addr) (mc : Nat) (M : List SV) (w : World) (hl : Row w la L.length lc 1 (L.map SV.enc)) (hlr : RowsI w L) (hln : L.length ≤ 2097152) (hle : ∀ s ∈ L, s.xs.length ≤ 2097152) (hm : Row w ma M.length mc 1 (M.map SV.enc)) (hmr : RowsI w M) (hmn : M.length ≤ 2097152) (hme : ∀ s ∈ M, s.xs.length ≤ 2097152) : Ret Try.prog 34 [.slice la L.length lc, .slice ma M.length mc] w (fun v w' => v = .bool (decide (L.map (·.xs) = M.map (·.xs))) ∧ Ext w w') := by
  have hB := Below.refl w.heap.size w
  have hsz : w.heap.size ≤ w.heap.size := Nat.le_refl _
  refine ret_of_runs (args := [_, _]) Try.func34 rfl (Nat.le_of_ble_eq_true rfl) (by kernel_rfl) ?_
  refine r_seq ?_
  refine r_region' ?_
  refine l_q (q_assign (v := .bool _) rfl rfl) ?_
  refine l_nil ?_
  refine r_forget [(0, .slice _ _ _), (1, .slice _ _ _)] ⟨rfl, rfl, trivial⟩ (fun e1 => ?_)
  refine r_seq ?_
  refine r_seq ?_
  refine r_region' ?_
  refine l_q (q_move (v := .slice _ _ _) rfl rfl) ?_
  refine l_q (q_len rfl Try.underlying48 rfl rfl) ?_
  refine l_q (q_move (v := .slice _ _ _) rfl rfl) ?_
  refine l_q (q_len rfl Try.underlying48 rfl rfl) ?_
  refine l_q (q_neq rfl rfl rfl) ?_
  refine l_nil ?_
  refine r_forget [(0, .slice _ _ _), (1, .slice _ _ _), (10, .bool _)] ⟨rfl, rfl, rfl, trivial⟩ (fun e2 => ?_)
  refine r_cond rfl (fun hc3 => ?_) (fun hc3 => ?_)
  · skip
    try simp only [decide_eq_true_eq, decide_eq_false_iff_not, Bool.not_eq_true', Bool.not_eq_false', Bool.not_not, Bool.not_true, Bool.not_false, Bool.not_eq_true, Bool.not_eq_false, Int.not_lt, Int.not_le, Bool.and_eq_true, Bool.or_eq_true, Bool.and_eq_false_iff, Bool.or_eq_false_iff] at hc3
    refine r_seq ?_
    refine r_region' ?_
    refine l_q (q_assign (v := .bool _) rfl rfl) ?_
    refine l_nil ?_
    refine r_forget [(4, .bool _)] ⟨rfl, trivial⟩ (fun e4 => ?_)
    refine r_ret_ (vs := [.bool _]) rfl Try.func34 rfl (.nil _) ⟨rfl, trivial⟩ ?_
    exact ⟨vbool_eq (by symm; rw [decide_eq_false_iff_not]; intro h; have := congrArg List.length h; simp at this; omega), Ext.of_below hB⟩
  · skip
    try simp only [decide_eq_true_eq, decide_eq_false_iff_not, Bool.not_eq_true', Bool.not_eq_false', Bool.not_not, Bool.not_true, Bool.not_false, Bool.not_eq_true, Bool.not_eq_false, Int.not_lt, Int.not_le, Bool.and_eq_true, Bool.or_eq_true, Bool.and_eq_false_iff, Bool.or_eq_false_iff] at hc3
    refine r_skip ?_
    refine r_seq ?_
    refine r_seq ?_
    refine r_region' ?_
    refine l_q (q_assign (v := .int _ _) rfl rfl) ?_
    refine l_nil ?_
    refine r_forget [(0, .slice _ _ _), (1, .slice _ _ _), (5, .int _ _)] ⟨rfl, rfl, rfl, trivial⟩ (fun e5 => ?_)
    refine r_block ?_
    refine r_rounds (α := Nat) (fun k e wl => Knows e [(0, .slice la L.length lc), (1, .slice ma M.length mc), (5, vint (k : Int))] ∧ (k ≤ L.length) ∧ (∀ j, j < k → (L.getD j sv0).xs = (M.getD j sv0).xs) ∧ (L.length = M.length) ∧ (w.heap.size ≤ wl.heap.size) ∧ (Below w.heap.size w wl)) (fun k => L.length - k) 0 ?_ ?_
    · skip
      exact ⟨⟨rfl, rfl, rfl, trivial⟩, (Nat.zero_le _), (fun i hi => absurd hi (Nat.not_lt_zero _)), (by omega), hsz, hB⟩
    · skip
      rintro k el6 wl6 ⟨hkn, hkk, hq, hlen, hsz, hB⟩ ih6
      obtain ⟨e6, rfl⟩ := knows_env hkn
      refine r_seq ?_
      refine r_seq ?_
      refine r_region' ?_
      refine l_q (q_move (v := .int _ _) rfl rfl) ?_
      refine l_q (q_move (v := .slice _ _ _) rfl rfl) ?_
      refine l_q (q_len rfl Try.underlying48 rfl rfl) ?_
      refine l_q (q_lss rfl rfl rfl) ?_
      refine l_nil ?_
      refine r_forget [(0, .slice _ _ _), (1, .slice _ _ _), (5, .int _ _), (14, .bool _)] ⟨rfl, rfl, rfl, rfl, trivial⟩ (fun e7 => ?_)
      refine r_cond rfl (fun hc8 => ?_) (fun hc8 => ?_)
      · skip
        try simp only [decide_eq_true_eq, decide_eq_false_iff_not, Bool.not_eq_true', Bool.not_eq_false', Bool.not_not, Bool.not_true, Bool.not_false, Bool.not_eq_true, Bool.not_eq_false, Int.not_lt, Int.not_le, Bool.and_eq_true, Bool.or_eq_true, Bool.and_eq_false_iff, Bool.or_eq_false_iff] at hc8
        have hkl : k < L.length := by omega
        have hel := hle _ (getD_lt (d := sv0) hkl)
        have hem := hme _ (getD_lt (d := sv0) (show k < M.length by omega))
        refine r_skip ?_
        refine r_seq ?_
        refine r_block ?_
        refine r_seq ?_
        refine r_draw ext_refl' ext_trans' [0, 1, 2, 3, 4, 5, 6, 7, 8, 9] [8] 2 (by kernel_rfl) (by kernel_rfl) ?_
        intro w9 _ hE9
        replace hB := below_ext hB hE9 hsz
        replace hsz := Nat.le_trans hsz hE9.size
        refine m_q rfl rfl (fun w' hC' => q_move (v := .slice _ _ _) rfl rfl) ?_
        refine m_q rfl rfl (fun w' hC' => q_move (v := .int _ _) rfl rfl) ?_
        have hr11 := (hlr.below hB).get (i := k) (by omega)
        obtain ⟨b10, o10, ha10, hh10⟩ := (hl.below hB).at1 k ((L).getD k sv0) (getD_some (by omega))
        refine m_q rfl rfl (fun w' hC' => q_indexAddr1 Try.underlying48 Try.sizeOf25 rfl ha10 rfl (by omega) rfl) ?_
        refine m_q rfl rfl (fun w' hC' => q_load Try.isAgg25 rfl ((hh10.ext hC')) rfl) ?_
        refine m_q rfl rfl (fun w' hC' => q_move (v := .slice _ _ _) rfl rfl) ?_
        refine m_q rfl rfl (fun w' hC' => q_move (v := .int _ _) rfl rfl) ?_
        have hr13 := (hmr.below hB).get (i := k) (by omega)
        obtain ⟨b12, o12, ha12, hh12⟩ := (hm.below hB).at1 k ((M).getD k sv0) (getD_some (by omega))
        refine m_q rfl rfl (fun w' hC' => q_indexAddr1 Try.underlying48 Try.sizeOf25 rfl ha12 rfl (by omega) rfl) ?_
        refine m_q rfl rfl (fun w' hC' => q_load Try.isAgg25 rfl ((hh12.ext hC')) rfl) ?_
        refine m_o rfl rfl (o_call Try.call30 rfl (same_ret _ _ (((L).getD k sv0).xs) _ _ (((M).getD k sv0).xs) _ hr11 (by omega) hr13 (by omega)) rfl ?_)
        rintro _ w14 ⟨rfl, hE14⟩
        refine ⟨hE14, ?_⟩
        replace hB := below_ext hB hE14 hsz
        replace hr11 := hr11.ext hE14
        replace hr13 := hr13.ext hE14
        replace hsz := Nat.le_trans hsz hE14.size
        refine m_q rfl rfl (fun w' hC' => q_not rfl rfl) ?_
        refine m_nil ?_
        refine r_forget [(0, .slice _ _ _), (1, .slice _ _ _), (5, .int _ _), (26, .bool _)] ⟨rfl, rfl, rfl, rfl, trivial⟩ (fun e15 => ?_)
        refine r_cond rfl (fun hc16 => ?_) (fun hc16 => ?_)
        · skip
          try simp only [decide_eq_true_eq, decide_eq_false_iff_not, Bool.not_eq_true', Bool.not_eq_false', Bool.not_not, Bool.not_true, Bool.not_false, Bool.not_eq_true, Bool.not_eq_false, Int.not_lt, Int.not_le, Bool.and_eq_true, Bool.or_eq_true, Bool.and_eq_false_iff, Bool.or_eq_false_iff] at hc16
          refine r_seq ?_
          refine r_region' ?_
          refine l_q (q_assign (v := .bool _) rfl rfl) ?_
          refine l_nil ?_
          refine r_forget [(4, .bool _)] ⟨rfl, trivial⟩ (fun e17 => ?_)
          refine r_ret_ (vs := [.bool _]) rfl Try.func34 rfl (.nil _) ⟨rfl, trivial⟩ ?_
          exact ⟨vbool_eq (by symm; rw [decide_eq_false_iff_not, sv_maps]; rintro ⟨_, h⟩; exact absurd (h k (by omega)) (by simp_all)), Ext.of_below hB⟩
        · skip
          try simp only [decide_eq_true_eq, decide_eq_false_iff_not, Bool.not_eq_true', Bool.not_eq_false', Bool.not_not, Bool.not_true, Bool.not_false, Bool.not_eq_true, Bool.not_eq_false, Int.not_lt, Int.not_le, Bool.and_eq_true, Bool.or_eq_true, Bool.and_eq_false_iff, Bool.or_eq_false_iff] at hc16
          refine r_skip ?_
          refine r_inBlock ?_
          refine r_region' ?_
          refine l_q (q_move (v := .int _ _) rfl rfl) ?_
          refine l_q (q_add rfl rfl (by omega) rfl) ?_
          refine l_q (q_assign (v := .int _ _) rfl rfl) ?_
          refine l_nil ?_
          refine r_forget [(0, .slice _ _ _), (1, .slice _ _ _), (5, .int _ _)] ⟨rfl, rfl, rfl, trivial⟩ (fun e18 => ?_)
          exact ih6 (k + 1) _ _ ⟨⟨rfl, rfl, by first | rfl | exact vint_eq (by omega), trivial⟩, (by omega), (fun j hj => by rcases Nat.lt_succ_iff_lt_or_eq.1 hj with h | h; exact hq j h; subst h; first | assumption | simp_all), hlen, hsz, hB⟩ (by first | omega | (dsimp only; omega))
      · skip
        try simp only [decide_eq_true_eq, decide_eq_false_iff_not, Bool.not_eq_true', Bool.not_eq_false', Bool.not_not, Bool.not_true, Bool.not_false, Bool.not_eq_true, Bool.not_eq_false, Int.not_lt, Int.not_le, Bool.and_eq_true, Bool.or_eq_true, Bool.and_eq_false_iff, Bool.or_eq_false_iff] at hc8
        refine r_exit rfl ?_
        refine r_seq ?_
        refine r_region' ?_
        refine l_q (q_assign (v := .bool _) rfl rfl) ?_
        refine l_nil ?_
        refine r_forget [(4, .bool _)] ⟨rfl, trivial⟩ (fun e19 => ?_)
        refine r_ret_ (vs := [.bool _]) rfl Try.func34 rfl (.nil _) ⟨rfl, trivial⟩ ?_
        exact ⟨vbool_eq (by symm; rw [decide_eq_true_eq, sv_maps]; exact ⟨hlen, fun j hj => hq j (by omega)⟩), Ext.of_below hB⟩
theorem short_ret (la : Option Addr) (lc : Nat) (L : List SV) (w : World) (hl : Row w la L.length lc 1 (L.map SV.enc)) (hlr : RowsI w L) (hln : L.length ≤ 2097152) (hle : ∀ s ∈ L, s.xs.length ≤ 2097152) : Ret Try.prog 36 [.slice la L.length lc] w (fun v w' => v = .bool (shortL (L.map (·.xs))) ∧ w = w') := by
  have hB := Below.refl w.heap.size w
  have hsz : w.heap.size ≤ w.heap.size := Nat.le_refl _
  refine ret_of_runs (args := [_]) Try.func36 rfl (Nat.le_of_ble_eq_true rfl) (by kernel_rfl) ?_
  refine r_seq ?_
  refine r_region' ?_
  refine l_q (q_assign (v := .bool _) rfl rfl) ?_
  refine l_nil ?_
  refine r_forget [(0, .slice _ _ _)] ⟨rfl, trivial⟩ (fun e1 => ?_)
  refine r_seq ?_
  refine r_seq ?_
  refine r_region' ?_
  refine l_q (q_assign (v := .int _ _) rfl rfl) ?_
  refine l_nil ?_
  refine r_block ?_
  refine r_rounds (α := Nat) (fun k e wl => Knows e [(0, .slice la L.length lc), (3, vint (k : Int))] ∧ (k ≤ L.length) ∧ (k ≤ 71) ∧ (∀ j, j < k → (L.getD j sv0).xs.length ≤ 9) ∧ (w = wl)) (fun k => L.length - k) 0 ?_ ?_
  · skip
    exact ⟨⟨rfl, rfl, trivial⟩, (Nat.zero_le _), (by omega), (fun i hi => absurd hi (Nat.not_lt_zero _)), rfl⟩
  · skip
    rintro k el2 wl2 ⟨hkn, hkk, hk71, hq, rfl⟩ ih2
    obtain ⟨e2, rfl⟩ := knows_env hkn
    refine r_seq ?_
    refine r_seq ?_
    refine r_region' ?_
    refine l_q (q_move (v := .int _ _) rfl rfl) ?_
    refine l_q (q_move (v := .slice _ _ _) rfl rfl) ?_
    refine l_q (q_len rfl Try.underlying48 rfl rfl) ?_
    refine l_q (q_lss rfl rfl rfl) ?_
    refine l_q (q_move (v := .bool _) rfl rfl) ?_
    refine l_part 8 rfl (fun hc3 => ?_) (fun hc3 => ?_)
    · skip
      try simp only [decide_eq_true_eq, decide_eq_false_iff_not, Bool.not_eq_true', Bool.not_eq_false', Bool.not_not, Bool.not_true, Bool.not_false, Bool.not_eq_true, Bool.not_eq_false, Int.not_lt, Int.not_le, Bool.and_eq_true, Bool.or_eq_true, Bool.and_eq_false_iff, Bool.or_eq_false_iff] at hc3
      refine l_q (q_move (v := .int _ _) rfl rfl) ?_
      refine l_q (q_lss rfl rfl rfl) ?_
      refine l_q (q_pick_t (v := .bool _) rfl rfl rfl) ?_
      refine l_nil ?_
      refine r_forget [(0, .slice _ _ _), (3, .int _ _), (11, .bool _)] ⟨rfl, rfl, rfl, trivial⟩ (fun e4 => ?_)
      refine r_cond rfl (fun hc5 => ?_) (fun hc5 => ?_)
      · skip
        try simp only [decide_eq_true_eq, decide_eq_false_iff_not, Bool.not_eq_true', Bool.not_eq_false', Bool.not_not, Bool.not_true, Bool.not_false, Bool.not_eq_true, Bool.not_eq_false, Int.not_lt, Int.not_le, Bool.and_eq_true, Bool.or_eq_true, Bool.and_eq_false_iff, Bool.or_eq_false_iff] at hc5
        refine r_skip ?_
        refine r_seq ?_
        refine r_block ?_
        refine r_seq ?_
        refine r_region' ?_
        refine l_q (q_move (v := .slice _ _ _) rfl rfl) ?_
        refine l_q (q_move (v := .int _ _) rfl rfl) ?_
        have hr7 := (hlr.below hB).get (i := k) (by omega)
        obtain ⟨b6, o6, ha6, hh6⟩ := (hl.below hB).at1 k ((L).getD k sv0) (getD_some (by omega))
        refine l_q (q_indexAddr1 Try.underlying48 Try.sizeOf25 rfl ha6 rfl (by omega) rfl) ?_
        refine l_q (q_load Try.isAgg25 rfl (hh6) rfl) ?_
        refine l_q (q_len rfl Try.underlying25 rfl rfl) ?_
        refine l_q (q_gtr rfl rfl rfl) ?_
        refine l_nil ?_
        refine r_forget [(0, .slice _ _ _), (3, .int _ _), (19, .bool _)] ⟨rfl, rfl, rfl, trivial⟩ (fun e8 => ?_)
        refine r_cond rfl (fun hc9 => ?_) (fun hc9 => ?_)
        · skip
          try simp only [decide_eq_true_eq, decide_eq_false_iff_not, Bool.not_eq_true', Bool.not_eq_false', Bool.not_not, Bool.not_true, Bool.not_false, Bool.not_eq_true, Bool.not_eq_false, Int.not_lt, Int.not_le, Bool.and_eq_true, Bool.or_eq_true, Bool.and_eq_false_iff, Bool.or_eq_false_iff] at hc9
          refine r_seq ?_
          refine r_region' ?_
          refine l_q (q_assign (v := .bool _) rfl rfl) ?_
          refine l_nil ?_
          refine r_forget [(2, .bool _)] ⟨rfl, trivial⟩ (fun e10 => ?_)
          refine r_ret_ (vs := [.bool _]) rfl Try.func36 rfl (.nil _) ⟨rfl, trivial⟩ ?_
          exact ⟨vbool_eq (short_bad (k := k) (by omega) (by omega) (by omega)).symm, rfl⟩
        · skip
          try simp only [decide_eq_true_eq, decide_eq_false_iff_not, Bool.not_eq_true', Bool.not_eq_false', Bool.not_not, Bool.not_true, Bool.not_false, Bool.not_eq_true, Bool.not_eq_false, Int.not_lt, Int.not_le, Bool.and_eq_true, Bool.or_eq_true, Bool.and_eq_false_iff, Bool.or_eq_false_iff] at hc9
          refine r_skip ?_
          refine r_inBlock ?_
          refine r_region' ?_
          refine l_q (q_move (v := .int _ _) rfl rfl) ?_
          refine l_q (q_add rfl rfl (by omega) rfl) ?_
          refine l_q (q_assign (v := .int _ _) rfl rfl) ?_
          refine l_nil ?_
          refine r_forget [(0, .slice _ _ _), (3, .int _ _)] ⟨rfl, rfl, trivial⟩ (fun e11 => ?_)
          exact ih2 (k + 1) _ _ ⟨⟨rfl, by first | rfl | exact vint_eq (by omega), trivial⟩, (by omega), (by omega), (fun j hj => by rcases Nat.lt_succ_iff_lt_or_eq.1 hj with h | h; exact hq j h; subst h; omega), rfl⟩ (by first | omega | (dsimp only; omega))
      · skip
        try simp only [decide_eq_true_eq, decide_eq_false_iff_not, Bool.not_eq_true', Bool.not_eq_false', Bool.not_not, Bool.not_true, Bool.not_false, Bool.not_eq_true, Bool.not_eq_false, Int.not_lt, Int.not_le, Bool.and_eq_true, Bool.or_eq_true, Bool.and_eq_false_iff, Bool.or_eq_false_iff] at hc5
        refine r_exit rfl ?_
        refine r_seq ?_
        refine r_region' ?_
        refine l_q (q_move (v := .slice _ _ _) rfl rfl) ?_
        refine l_q (q_len rfl Try.underlying48 rfl rfl) ?_
        refine l_q (q_leq rfl rfl rfl) ?_
        refine l_q (q_assign (v := .bool _) rfl rfl) ?_
        refine l_nil ?_
        refine r_forget [(2, .bool _)] ⟨rfl, trivial⟩ (fun e12 => ?_)
        refine r_ret_ (vs := [.bool _]) rfl Try.func36 rfl (.nil _) ⟨rfl, trivial⟩ ?_
        exact ⟨vbool_eq (short_end (k := k) (by omega) (by omega) hq).symm, rfl⟩
    · skip
      try simp only [decide_eq_true_eq, decide_eq_false_iff_not, Bool.not_eq_true', Bool.not_eq_false', Bool.not_not, Bool.not_true, Bool.not_false, Bool.not_eq_true, Bool.not_eq_false, Int.not_lt, Int.not_le, Bool.and_eq_true, Bool.or_eq_true, Bool.and_eq_false_iff, Bool.or_eq_false_iff] at hc3
      refine l_q (q_skip rfl) ?_
      refine l_q (q_skip rfl) ?_
      refine l_q (q_pick_f (v := .bool _) rfl rfl rfl) ?_
      refine l_nil ?_
      refine r_forget [(0, .slice _ _ _), (3, .int _ _), (11, .bool _)] ⟨rfl, rfl, rfl, trivial⟩ (fun e13 => ?_)
      refine r_cond_f rfl ?_
      refine r_exit rfl ?_
      refine r_seq ?_
      refine r_region' ?_
      refine l_q (q_move (v := .slice _ _ _) rfl rfl) ?_
      refine l_q (q_len rfl Try.underlying48 rfl rfl) ?_
      refine l_q (q_leq rfl rfl rfl) ?_
      refine l_q (q_assign (v := .bool _) rfl rfl) ?_
      refine l_nil ?_
      refine r_forget [(2, .bool _)] ⟨rfl, trivial⟩ (fun e14 => ?_)
      refine r_ret_ (vs := [.bool _]) rfl Try.func36 rfl (.nil _) ⟨rfl, trivial⟩ ?_
      exact ⟨vbool_eq (short_end (k := k) (by omega) (by omega) hq).symm, rfl⟩
end Go.Proofs.Ytkcbgpilfegofaa
