/- Contracts. -/
import Derived.Test.YtkcbgpilfegofaaF7
set_option linter.unusedVariables false
set_option linter.unusedSimpArgs false
namespace Go.Proofs.Ytkcbgpilfegofaa
open Go Go.RowKit Go.Gv Go.Fl

def minOf (xs : List Int) : Int := xs.foldl min (xs.getD 0 0)
theorem min_one {xs : List Int} (h : 0 < xs.length) : (xs.take 1).foldl min (xs.getD 0 0) = xs.getD 0 0 := by
  cases xs with
  | nil => cases h
  | cons x l => show min x x = x; omega
theorem min_step {xs : List Int} {k : Nat} (h : k < xs.length) : min ((xs.take k).foldl min (xs.getD 0 0)) (xs.getD k 0) = (xs.take (k + 1)).foldl min (xs.getD 0 0) := by
  rw [take_succ_getD h, List.foldl_append]; rfl
theorem min_two (x y : Int) : minOf [x, y] = min x y := by show min (min x x) y = min x y; omega
def rep (T : List (List Int)) (F : Nat) : Nat × Nat := let i := (idxI (fun i => decidesB T (i % F) (i / F)) (6 * F)).toNat; (i % F, i / F)
theorem rep6 {T : List (List Int)} {m f : Nat} (hm : m < 6) (hf : f < 6) (h : decidesB T f m = true) (hno : ∀ i, i < m * 6 + f → decidesB T (i % 6) (i / 6) = false) : rep T 6 = (f, m) := by
  unfold rep
  have h1 : (m * 6 + f) % 6 = f := by omega
  have h2 : (m * 6 + f) / 6 = m := by omega
  rw [idxI_found (k := m * 6 + f) (by omega) (by rw [h1, h2]; exact h) hno]
  simp only [Int.toNat_natCast, h1, h2]
theorem rep5 {T : List (List Int)} {m f : Nat} (hm : m < 6) (hf : f < 5) (h : decidesB T f m = true) (hno : ∀ i, i < m * 5 + f → decidesB T (i % 5) (i / 5) = false) : rep T 5 = (f, m) := by
  unfold rep
  have h1 : (m * 5 + f) % 5 = f := by omega
  have h2 : (m * 5 + f) / 5 = m := by omega
  rw [idxI_found (k := m * 5 + f) (by omega) (by rw [h1, h2]; exact h) hno]
  simp only [Int.toNat_natCast, h1, h2]
theorem fpart_eq (xs : List Int) (f m : Nat) : ((xs.take (minOf [minOf [(f : Int), (xs.length : Int)] + (m : Int), (xs.length : Int)]).toNat).drop (minOf [(f : Int), (xs.length : Int)]).toNat) = part xs f m := by
  rw [min_two, min_two, part]
  rcases Nat.lt_or_ge xs.length f with h | h
  · rw [List.drop_eq_nil_of_le (by rw [List.length_take]; omega), List.drop_eq_nil_of_le (by omega), List.take_nil]
  · rw [show (min (f : Int) xs.length).toNat = f by omega, List.drop_take, show (min (min (f : Int) xs.length + (m : Int)) xs.length).toNat - f = min m (xs.length - f) by omega]
    rcases Nat.le_total m (xs.length - f) with h2 | h2
    · rw [Nat.min_eq_left h2]
    · rw [Nat.min_eq_right h2, List.take_of_length_le (by rw [List.length_drop]; omega), List.take_of_length_le (by rw [List.length_drop]; omega)]
theorem getD_take {α : Type} {l : List α} {d : α} {i j : Nat} (h : j < i) : (l.take i).getD j d = l.getD j d := by
  rw [List.getD_eq_getElem?_getD, List.getD_eq_getElem?_getD, List.getElem?_take, if_pos h]
def catL (L : List SV) : List Int := (L.map (·.xs)).flatten
theorem catL_step {L : List SV} {k : Nat} (h : k < L.length) : catL (L.take k) ++ (L.getD k sv0).xs = catL (L.take (k + 1)) := by
  rw [List.take_add_one, List.getElem?_eq_getElem h, List.getD_eq_getElem?_getD, List.getElem?_eq_getElem h]
  simp only [catL, Option.toList_some, Option.getD_some, List.map_append, List.map_cons, List.map_nil, List.flatten_append, List.flatten_cons, List.flatten_nil, List.append_nil]
theorem catL_len {L : List SV} {k : Nat} (h : k < L.length) : (catL (L.take (k + 1))).length = (catL (L.take k)).length + (L.getD k sv0).xs.length := by
  rw [← catL_step h, List.length_append]
theorem made_hi (b c : Nat) : Value.slice (if c = (0 : Int).toNat then some ⟨b, 0, none⟩ else (some ⟨b, 0, none⟩ : Option Addr).map (·.add ((0 : Int).toNat * 1))) ((0 : Int).toNat - (0 : Int).toNat) (c - (0 : Int).toNat) = .slice (some ⟨b, 0, none⟩) 0 c := by
  simp [Addr.add]


theorem equal_ret (xa : Option Addr) (xc : Nat) (xs : List Int) (ya : Option Addr) (yc : Nat) (ys : List Int) (w : World) (hx : Row w xa xs.length xc 1 (xs.map vint)) (hxn : xs.length ≤ 2097152) (hy : Row w ya ys.length yc 1 (ys.map vint)) (hyn : ys.length ≤ 2097152) : Ret Try.prog 97 [.slice xa xs.length xc, .slice ya ys.length yc] w (fun v w' => v = .bool (decide (xs = ys)) ∧ Ext w w') := by
  have hB := Below.refl w.heap.size w
  have hsz : w.heap.size ≤ w.heap.size := Nat.le_refl _
  refine ret_of_runs (args := [_, _]) Try.func97 rfl (Nat.le_of_ble_eq_true rfl) (by kernel_rfl) ?_
  refine r_seq ?_
  refine r_region' ?_
  refine l_q (q_assign (v := .bool _) rfl rfl) ?_
  refine l_nil ?_
  refine r_forget [(0, .slice _ _ _), (1, .slice _ _ _)] ⟨rfl, rfl, trivial⟩ (fun e1 => ?_)
  refine r_seq ?_
  refine r_seq ?_
  refine r_region' ?_
  refine l_q (q_move (v := .slice _ _ _) rfl rfl) ?_
  refine l_q (q_len rfl Try.underlying25 rfl rfl) ?_
  refine l_q (q_move (v := .slice _ _ _) rfl rfl) ?_
  refine l_q (q_len rfl Try.underlying25 rfl rfl) ?_
  refine l_q (q_neq rfl rfl rfl) ?_
  refine l_nil ?_
  refine r_forget [(0, .slice _ _ _), (1, .slice _ _ _), (10, .bool _)] ⟨rfl, rfl, rfl, trivial⟩ (fun e2 => ?_)
  refine r_cond rfl (fun hc3 => ?_) (fun hc3 => ?_)
  · skip
    try simp only [decide_eq_true_eq, decide_eq_false_iff_not, Bool.not_eq_true', Bool.not_eq_false', Bool.not_not, Bool.not_true, Bool.not_false, Bool.not_eq_true, Bool.not_eq_false, Int.not_lt, Int.not_le, Bool.and_eq_true, Bool.or_eq_true, Bool.and_eq_false_iff, Bool.or_eq_false_iff] at hc3
    refine r_seq ?_
    refine r_region' ?_
    refine l_q (q_assign (v := .bool _) rfl rfl) ?_
    refine l_nil ?_
    refine r_forget [(4, .bool _)] ⟨rfl, trivial⟩ (fun e4 => ?_)
    refine r_ret_ (vs := [.bool _]) rfl Try.func97 rfl (.nil _) ⟨rfl, trivial⟩ ?_
    exact ⟨vbool_eq (by symm; rw [decide_eq_false_iff_not]; intro h; subst h; omega), Ext.of_below hB⟩
  · skip
    try simp only [decide_eq_true_eq, decide_eq_false_iff_not, Bool.not_eq_true', Bool.not_eq_false', Bool.not_not, Bool.not_true, Bool.not_false, Bool.not_eq_true, Bool.not_eq_false, Int.not_lt, Int.not_le, Bool.and_eq_true, Bool.or_eq_true, Bool.and_eq_false_iff, Bool.or_eq_false_iff] at hc3
    refine r_skip ?_
    refine r_seq ?_
    refine r_seq ?_
    refine r_region' ?_
    refine l_q (q_move (v := .slice _ _ _) rfl rfl) ?_
    refine l_q (q_len rfl Try.underlying25 rfl rfl) ?_
    refine l_q (q_move (v := .int _ _) rfl rfl) ?_
    refine l_nil ?_
    refine r_forget [(0, .slice _ _ _), (1, .slice _ _ _), (12, .int _ _), (13, .int _ _)] ⟨rfl, rfl, rfl, rfl, trivial⟩ (fun e5 => ?_)
    refine r_block ?_
    refine r_rounds (α := Nat) (fun k e wl => Knows e [(0, .slice xa xs.length xc), (1, .slice ya ys.length yc), (12, vint (xs.length : Int)), (13, vint (k : Int))] ∧ (k ≤ xs.length) ∧ (∀ j, j < k → xs.getD j 0 = ys.getD j 0) ∧ (xs.length = ys.length) ∧ (w.heap.size ≤ wl.heap.size) ∧ (Below w.heap.size w wl)) (fun k => xs.length - k) 0 ?_ ?_
    · skip
      exact ⟨⟨rfl, rfl, rfl, rfl, trivial⟩, (Nat.zero_le _), (fun i hi => absurd hi (Nat.not_lt_zero _)), (by omega), hsz, hB⟩
    · skip
      rintro k el6 wl6 ⟨hkn, hkk, hq, hlen, hsz, hB⟩ ih6
      obtain ⟨e6, rfl⟩ := knows_env hkn
      refine r_seq ?_
      refine r_region' ?_
      refine l_q (q_lss rfl rfl rfl) ?_
      refine l_nil ?_
      refine r_seq ?_
      refine r_cond rfl (fun hc7 => ?_) (fun hc7 => ?_)
      · skip
        try simp only [decide_eq_true_eq, decide_eq_false_iff_not, Bool.not_eq_true', Bool.not_eq_false', Bool.not_not, Bool.not_true, Bool.not_false, Bool.not_eq_true, Bool.not_eq_false, Int.not_lt, Int.not_le, Bool.and_eq_true, Bool.or_eq_true, Bool.and_eq_false_iff, Bool.or_eq_false_iff] at hc7
        refine r_skip ?_
        refine r_seq ?_
        refine r_block ?_
        refine r_seq ?_
        refine r_region' ?_
        refine l_q (q_move (v := .int _ _) rfl rfl) ?_
        refine l_q (q_assign (v := .int _ _) rfl rfl) ?_
        refine l_nil ?_
        refine r_forget [(0, .slice _ _ _), (1, .slice _ _ _), (5, .int _ _), (12, .int _ _), (13, .int _ _)] ⟨rfl, rfl, rfl, rfl, rfl, trivial⟩ (fun e8 => ?_)
        refine r_seq ?_
        refine r_draw ext_refl' ext_trans' [0, 1, 2, 3, 4, 5, 6, 7, 8] [] 2 (by kernel_rfl) (by kernel_rfl) ?_
        intro w9 _ hE9
        replace hB := below_ext hB hE9 hsz
        replace hsz := Nat.le_trans hsz hE9.size
        refine m_q rfl rfl (fun w' hC' => q_move (v := .slice _ _ _) rfl rfl) ?_
        refine m_q rfl rfl (fun w' hC' => q_move (v := .int _ _) rfl rfl) ?_
        obtain ⟨b10, o10, ha10, hh10⟩ := (hx.below hB).at1 k ((xs).getD k 0) (getD_some (by omega))
        refine m_q rfl rfl (fun w' hC' => q_indexAddr1 Try.underlying25 Try.sizeOf3 rfl ha10 rfl (by omega) rfl) ?_
        refine m_q rfl rfl (fun w' hC' => q_load Try.isAgg3 rfl ((hh10.ext hC')) rfl) ?_
        refine m_q rfl rfl (fun w' hC' => q_move (v := .slice _ _ _) rfl rfl) ?_
        refine m_q rfl rfl (fun w' hC' => q_move (v := .int _ _) rfl rfl) ?_
        obtain ⟨b11, o11, ha11, hh11⟩ := (hy.below hB).at1 k ((ys).getD k 0) (getD_some (by omega))
        refine m_q rfl rfl (fun w' hC' => q_indexAddr1 Try.underlying25 Try.sizeOf3 rfl ha11 rfl (by omega) rfl) ?_
        refine m_q rfl rfl (fun w' hC' => q_load Try.isAgg3 rfl ((hh11.ext hC')) rfl) ?_
        refine m_q rfl rfl (fun w' hC' => q_neq rfl rfl rfl) ?_
        refine m_nil ?_
        refine r_forget [(0, .slice _ _ _), (1, .slice _ _ _), (12, .int _ _), (13, .int _ _), (24, .bool _)] ⟨rfl, rfl, rfl, rfl, rfl, trivial⟩ (fun e12 => ?_)
        refine r_cond rfl (fun hc13 => ?_) (fun hc13 => ?_)
        · skip
          try simp only [decide_eq_true_eq, decide_eq_false_iff_not, Bool.not_eq_true', Bool.not_eq_false', Bool.not_not, Bool.not_true, Bool.not_false, Bool.not_eq_true, Bool.not_eq_false, Int.not_lt, Int.not_le, Bool.and_eq_true, Bool.or_eq_true, Bool.and_eq_false_iff, Bool.or_eq_false_iff] at hc13
          refine r_seq ?_
          refine r_region' ?_
          refine l_q (q_assign (v := .bool _) rfl rfl) ?_
          refine l_nil ?_
          refine r_forget [(4, .bool _)] ⟨rfl, trivial⟩ (fun e14 => ?_)
          refine r_ret_ (vs := [.bool _]) rfl Try.func97 rfl (.nil _) ⟨rfl, trivial⟩ ?_
          exact ⟨vbool_eq (by symm; rw [decide_eq_false_iff_not]; intro h; subst h; simp_all), Ext.of_below hB⟩
        · skip
          try simp only [decide_eq_true_eq, decide_eq_false_iff_not, Bool.not_eq_true', Bool.not_eq_false', Bool.not_not, Bool.not_true, Bool.not_false, Bool.not_eq_true, Bool.not_eq_false, Int.not_lt, Int.not_le, Bool.and_eq_true, Bool.or_eq_true, Bool.and_eq_false_iff, Bool.or_eq_false_iff] at hc13
          refine r_skip ?_
          refine r_inBlock ?_
          refine r_region' ?_
          refine l_q (q_add rfl rfl (by omega) rfl) ?_
          refine l_q (q_move (v := .int _ _) rfl rfl) ?_
          refine l_nil ?_
          refine r_forget [(0, .slice _ _ _), (1, .slice _ _ _), (12, .int _ _), (13, .int _ _)] ⟨rfl, rfl, rfl, rfl, trivial⟩ (fun e15 => ?_)
          exact ih6 (k + 1) _ _ ⟨⟨rfl, rfl, rfl, by first | rfl | exact vint_eq (by omega), trivial⟩, (by omega), (fun j hj => by rcases Nat.lt_succ_iff_lt_or_eq.1 hj with h | h; exact hq j h; subst h; assumption), hlen, hsz, hB⟩ (by first | omega | (dsimp only; omega))
      · skip
        try simp only [decide_eq_true_eq, decide_eq_false_iff_not, Bool.not_eq_true', Bool.not_eq_false', Bool.not_not, Bool.not_true, Bool.not_false, Bool.not_eq_true, Bool.not_eq_false, Int.not_lt, Int.not_le, Bool.and_eq_true, Bool.or_eq_true, Bool.and_eq_false_iff, Bool.or_eq_false_iff] at hc7
        refine r_exit rfl ?_
        refine r_seq ?_
        refine r_region' ?_
        refine l_q (q_assign (v := .bool _) rfl rfl) ?_
        refine l_nil ?_
        refine r_forget [(4, .bool _)] ⟨rfl, trivial⟩ (fun e16 => ?_)
        refine r_ret_ (vs := [.bool _]) rfl Try.func97 rfl (.nil _) ⟨rfl, trivial⟩ ?_
        exact ⟨vbool_eq (by symm; rw [decide_eq_true_eq]; exact ext_getD hlen (fun j hj => hq j (by omega))), Ext.of_below hB⟩
theorem min_ret (xa : Option Addr) (xc : Nat) (xs : List Int) (w : World) (hx : Row w xa xs.length xc 1 (xs.map vint)) (hxn : xs.length ≤ 2097152) (h0 : 0 < xs.length) : Ret Try.prog 107 [.slice xa xs.length xc] w (fun v w' => v = vint (minOf xs) ∧ Ext w w') := by
  have hB := Below.refl w.heap.size w
  have hsz : w.heap.size ≤ w.heap.size := Nat.le_refl _
  refine ret_of_runs (args := [_]) Try.func107 rfl (Nat.le_of_ble_eq_true rfl) (by kernel_rfl) ?_
  refine r_seq ?_
  refine r_region' ?_
  refine l_q (q_assign (v := .int _ _) rfl rfl) ?_
  refine l_nil ?_
  refine r_forget [(0, .slice _ _ _)] ⟨rfl, trivial⟩ (fun e1 => ?_)
  refine r_seq ?_
  refine r_seq ?_
  refine r_region' ?_
  refine l_q (q_move (v := .slice _ _ _) rfl rfl) ?_
  refine l_q (q_len rfl Try.underlying25 rfl rfl) ?_
  refine l_q (q_lss rfl rfl rfl) ?_
  refine l_nil ?_
  refine r_forget [(0, .slice _ _ _), (7, .bool _)] ⟨rfl, rfl, trivial⟩ (fun e2 => ?_)
  refine r_cond rfl (fun hc3 => ?_) (fun hc3 => ?_)
  · skip
    try simp only [decide_eq_true_eq, decide_eq_false_iff_not, Bool.not_eq_true', Bool.not_eq_false', Bool.not_not, Bool.not_true, Bool.not_false, Bool.not_eq_true, Bool.not_eq_false, Int.not_lt, Int.not_le, Bool.and_eq_true, Bool.or_eq_true, Bool.and_eq_false_iff, Bool.or_eq_false_iff] at hc3
    omega
  · skip
    try simp only [decide_eq_true_eq, decide_eq_false_iff_not, Bool.not_eq_true', Bool.not_eq_false', Bool.not_not, Bool.not_true, Bool.not_false, Bool.not_eq_true, Bool.not_eq_false, Int.not_lt, Int.not_le, Bool.and_eq_true, Bool.or_eq_true, Bool.and_eq_false_iff, Bool.or_eq_false_iff] at hc3
    refine r_skip ?_
    refine r_seq ?_
    refine r_region' ?_
    refine l_q (q_move (v := .slice _ _ _) rfl rfl) ?_
    obtain ⟨b4, o4, ha4, hh4⟩ := (hx.below hB).at1 0 ((xs).getD 0 0) (getD_some (by omega))
    refine l_q (q_indexAddr1 Try.underlying25 Try.sizeOf3 rfl ha4 rfl (by omega) rfl) ?_
    refine l_q (q_load Try.isAgg3 rfl (hh4) rfl) ?_
    refine l_q (q_assign (v := .int _ _) rfl rfl) ?_
    refine l_nil ?_
    refine r_forget [(0, .slice _ _ _), (3, .int _ _)] ⟨rfl, rfl, trivial⟩ (fun e5 => ?_)
    refine r_seq ?_
    refine r_seq ?_
    refine r_region' ?_
    refine l_q (q_assign (v := .int _ _) rfl rfl) ?_
    refine l_nil ?_
    refine r_block ?_
    refine r_rounds (α := Nat × Int) (fun ⟨k, m⟩ e wl => Knows e [(0, .slice xa xs.length xc), (3, vint m), (4, vint (k : Int))] ∧ (k ≤ xs.length) ∧ (m = (xs.take k).foldl min (xs.getD 0 0)) ∧ (w.heap.size ≤ wl.heap.size) ∧ (Below w.heap.size w wl)) (fun ⟨k, m⟩ => xs.length - k) (1, xs.getD 0 0) ?_ ?_
    · skip
      exact ⟨⟨rfl, rfl, rfl, trivial⟩, (by omega), (min_one h0).symm, hsz, hB⟩
    · skip
      rintro ⟨k, m⟩ el6 wl6 ⟨hkn, hkk, hm, hsz, hB⟩ ih6
      obtain ⟨e6, rfl⟩ := knows_env hkn
      refine r_seq ?_
      refine r_seq ?_
      refine r_region' ?_
      refine l_q (q_move (v := .int _ _) rfl rfl) ?_
      refine l_q (q_move (v := .slice _ _ _) rfl rfl) ?_
      refine l_q (q_len rfl Try.underlying25 rfl rfl) ?_
      refine l_q (q_lss rfl rfl rfl) ?_
      refine l_nil ?_
      refine r_forget [(0, .slice _ _ _), (3, .int _ _), (4, .int _ _), (15, .bool _)] ⟨rfl, rfl, rfl, rfl, trivial⟩ (fun e7 => ?_)
      refine r_cond rfl (fun hc8 => ?_) (fun hc8 => ?_)
      · skip
        try simp only [decide_eq_true_eq, decide_eq_false_iff_not, Bool.not_eq_true', Bool.not_eq_false', Bool.not_not, Bool.not_true, Bool.not_false, Bool.not_eq_true, Bool.not_eq_false, Int.not_lt, Int.not_le, Bool.and_eq_true, Bool.or_eq_true, Bool.and_eq_false_iff, Bool.or_eq_false_iff] at hc8
        refine r_skip ?_
        refine r_seq ?_
        refine r_block ?_
        refine r_region' ?_
        refine l_q (q_move (v := .int _ _) rfl rfl) ?_
        refine l_q (q_move (v := .slice _ _ _) rfl rfl) ?_
        refine l_q (q_move (v := .int _ _) rfl rfl) ?_
        obtain ⟨b9, o9, ha9, hh9⟩ := (hx.below hB).at1 k ((xs).getD k 0) (getD_some (by omega))
        refine l_q (q_indexAddr1 Try.underlying25 Try.sizeOf3 rfl ha9 rfl (by omega) rfl) ?_
        refine l_q (q_load Try.isAgg3 rfl (hh9) rfl) ?_
        refine l_q (q_min rfl rfl rfl) ?_
        refine l_q (q_assign (v := .int _ _) rfl rfl) ?_
        refine l_nil ?_
        refine r_forget [(0, .slice _ _ _), (3, .int _ _), (4, .int _ _)] ⟨rfl, rfl, rfl, trivial⟩ (fun e10 => ?_)
        refine r_inBlock ?_
        refine r_region' ?_
        refine l_q (q_move (v := .int _ _) rfl rfl) ?_
        refine l_q (q_add rfl rfl (by omega) rfl) ?_
        refine l_q (q_assign (v := .int _ _) rfl rfl) ?_
        refine l_nil ?_
        refine r_forget [(0, .slice _ _ _), (3, .int _ _), (4, .int _ _)] ⟨rfl, rfl, rfl, trivial⟩ (fun e11 => ?_)
        exact ih6 (k + 1, min m ((xs).getD k 0)) _ _ ⟨⟨rfl, rfl, by first | rfl | exact vint_eq (by omega), trivial⟩, (by omega), (by rw [hm]; exact min_step (by omega)), hsz, hB⟩ (by first | omega | (dsimp only; omega))
      · skip
        try simp only [decide_eq_true_eq, decide_eq_false_iff_not, Bool.not_eq_true', Bool.not_eq_false', Bool.not_not, Bool.not_true, Bool.not_false, Bool.not_eq_true, Bool.not_eq_false, Int.not_lt, Int.not_le, Bool.and_eq_true, Bool.or_eq_true, Bool.and_eq_false_iff, Bool.or_eq_false_iff] at hc8
        refine r_exit rfl ?_
        refine r_seq ?_
        refine r_region' ?_
        refine l_q (q_move (v := .int _ _) rfl rfl) ?_
        refine l_q (q_assign (v := .int _ _) rfl rfl) ?_
        refine l_nil ?_
        refine r_forget [(2, .int _ _)] ⟨rfl, trivial⟩ (fun e12 => ?_)
        refine r_ret_ (vs := [.int _ _]) rfl Try.func107 rfl (.nil _) ⟨rfl, trivial⟩ ?_
        exact ⟨vint_eq (by rw [hm, List.take_of_length_le (by omega)]; rfl), Ext.of_below hB⟩
theorem minimum_ret (xa : Option Addr) (xc : Nat) (xs : List Int) (w : World) (hx : Row w xa xs.length xc 1 (xs.map vint)) (hxn : xs.length ≤ 2097152) (h0 : 0 < xs.length) : Ret Try.prog 85 [.slice xa xs.length xc] w (fun v w' => v = vint (minOf xs) ∧ Ext w w') := by
  have hB := Below.refl w.heap.size w
  have hsz : w.heap.size ≤ w.heap.size := Nat.le_refl _
  refine ret_of_runs (args := [_]) Try.func85 rfl (Nat.le_of_ble_eq_true rfl) (by kernel_rfl) ?_
  refine r_seq ?_
  refine r_region' ?_
  refine l_q (q_assign (v := .int _ _) rfl rfl) ?_
  refine l_nil ?_
  refine r_forget [(0, .slice _ _ _)] ⟨rfl, trivial⟩ (fun e1 => ?_)
  refine r_seq ?_
  refine r_region' ?_
  refine l_q (q_move (v := .slice _ _ _) rfl rfl) ?_
  refine l_o (o_call Try.call107 rfl (min_ret _ _ xs _ (hx.below hB) (by first | omega | simp) (by first | omega | simp)) rfl ?_)
  rintro _ w2 ⟨rfl, hE2⟩
  replace hB := below_ext hB hE2 hsz
  replace hsz := Nat.le_trans hsz hE2.size
  refine l_q (q_assign (v := .int _ _) rfl rfl) ?_
  refine l_nil ?_
  refine r_forget [(2, .int _ _)] ⟨rfl, trivial⟩ (fun e3 => ?_)
  refine r_ret_ (vs := [.int _ _]) rfl Try.func85 rfl (.nil _) ⟨rfl, trivial⟩ ?_
  exact ⟨rfl, Ext.of_below hB⟩
theorem fpart_ret (xa : Option Addr) (xc : Nat) (xs : List Int) (f m : Nat) (w : World) (hx : Row w xa xs.length xc 1 (xs.map vint)) (hxn : xs.length ≤ 2097152) (hf : f ≤ 9) (hm : m ≤ 9) : Ret Try.prog 98 [.slice xa xs.length xc, vint (f : Int), vint (m : Int)] w (fun v w' => ∃ ra0 rc0, v = .slice ra0 (part xs f m).length rc0 ∧ Row w' ra0 (part xs f m).length rc0 1 ((part xs f m).map vint) ∧ Ext w w') := by
  have hlo := min_two (f : Int) xs.length
  have hhi := min_two (minOf [(f : Int), (xs.length : Int)] + (m : Int)) xs.length
  have hB := Below.refl w.heap.size w
  have hsz : w.heap.size ≤ w.heap.size := Nat.le_refl _
  refine ret_of_runs (args := [_, _, _]) Try.func98 rfl (Nat.le_of_ble_eq_true rfl) (by kernel_rfl) ?_
  refine r_seq ?_
  refine r_region' ?_
  refine l_q (q_assign (v := .slice _ _ _) rfl rfl) ?_
  refine l_nil ?_
  refine r_forget [(0, .slice _ _ _), (1, .int _ _), (2, .int _ _)] ⟨rfl, rfl, rfl, trivial⟩ (fun e1 => ?_)
  refine r_seq ?_
  refine r_region' ?_
  refine l_q (q_move (v := .int _ _) rfl rfl) ?_
  refine l_q (q_move (v := .slice _ _ _) rfl rfl) ?_
  refine l_q (q_len rfl Try.underlying25 rfl rfl) ?_
  refine l_o (o_buildSlice (el := 3) (cs := [vint (f : Int), vint (xs.length : Int)]) Try.underlying25 el3 (by decide) (by kernel_rfl) rfl (by decide) rfl ?_)
  intro b2 w2 hzl2 hzr2 _ hb2 hE2 ho2
  have hbs_b2 : w.heap.size ≤ b2 := Nat.le_trans hsz hzl2
  replace hB := below_ext hB hE2 hsz
  replace hsz := Nat.le_trans hsz hE2.size
  refine l_o (o_call Try.call85 rfl (minimum_ret _ _ [(f : Int), (xs.length : Int)] _ (Row.of_owns ho2) (by first | omega | simp) (by first | omega | simp)) rfl ?_)
  rintro _ w3 ⟨rfl, hE3⟩
  replace hB := below_ext hB hE3 hsz
  replace ho2 := own_ext ho2 hE3
  replace hsz := Nat.le_trans hsz hE3.size
  refine l_q (q_assign (v := .int _ _) rfl rfl) ?_
  refine l_nil ?_
  refine r_forget [(0, .slice _ _ _), (2, .int _ _), (7, .int _ _)] ⟨rfl, rfl, rfl, trivial⟩ (fun e4 => ?_)
  refine r_seq ?_
  refine r_region' ?_
  refine l_q (q_move (v := .slice _ _ _) rfl rfl) ?_
  refine l_q (q_move (v := .int _ _) rfl rfl) ?_
  refine l_q (q_move (v := .int _ _) rfl rfl) ?_
  refine l_q (q_move (v := .int _ _) rfl rfl) ?_
  refine l_q (q_add rfl rfl (by omega) rfl) ?_
  refine l_q (q_move (v := .slice _ _ _) rfl rfl) ?_
  refine l_q (q_len rfl Try.underlying25 rfl rfl) ?_
  refine l_o (o_buildSlice (el := 3) (cs := [vint ((minOf [(f : Int), (xs.length : Int)]) + (m : Int)), vint (xs.length : Int)]) Try.underlying25 el3 (by decide) (by kernel_rfl) rfl (by decide) rfl ?_)
  intro b5 w5 hzl5 hzr5 _ hb5 hE5 ho5
  have hbs_b5 : w.heap.size ≤ b5 := Nat.le_trans hsz hzl5
  replace hB := below_ext hB hE5 hsz
  replace ho2 := own_ext ho2 hE5
  replace hsz := Nat.le_trans hsz hE5.size
  refine l_o (o_call Try.call85 rfl (minimum_ret _ _ [(minOf [(f : Int), (xs.length : Int)]) + (m : Int), (xs.length : Int)] _ (Row.of_owns ho5) (by first | omega | simp) (by first | omega | simp)) rfl ?_)
  rintro _ w6 ⟨rfl, hE6⟩
  replace hB := below_ext hB hE6 hsz
  replace ho2 := own_ext ho2 hE6
  replace ho5 := own_ext ho5 hE6
  replace hsz := Nat.le_trans hsz hE6.size
  obtain ⟨a7, c7, hr7, hv7⟩ := slice_ex (f := vint) (xs := xs) (minOf [(f : Int), (xs.length : Int)]) (minOf [(minOf [(f : Int), (xs.length : Int)]) + (m : Int), (xs.length : Int)]) (hx.below hB) (by omega)
  refine l_q ((q_slice (lo := minOf [(f : Int), (xs.length : Int)]) (hi := minOf [(minOf [(f : Int), (xs.length : Int)]) + (m : Int), (xs.length : Int)]) Try.underlying25 Try.sizeOf3 rfl rfl rfl (by omega) (hx.below hB).2.1 rfl).cast hv7) ?_
  refine l_q (q_assign (v := .slice _ _ _) rfl rfl) ?_
  refine l_nil ?_
  refine r_forget [(6, .slice _ _ _)] ⟨rfl, trivial⟩ (fun e8 => ?_)
  refine r_ret_ (vs := [.slice _ _ _]) rfl Try.func98 rfl (.nil _) ⟨rfl, trivial⟩ ?_
  exact ⟨_, _, (congrArg (fun z => Value.slice _ (List.length z) _) (fpart_eq xs f m)), ((fpart_eq xs f m) ▸ hr7), Ext.of_below hB⟩
theorem fdecides_ret (la : Option Addr) (lc : Nat) (L : List SV) (f m : Nat) (w : World) (hl : Row w la L.length lc 1 (L.map SV.enc)) (hlr : RowsI w L) (hln : L.length ≤ 2097152) (hle : ∀ s ∈ L, s.xs.length ≤ 2097152) (hf : f ≤ 9) (hm : m ≤ 9) : Ret Try.prog 71 [.slice la L.length lc, vint (f : Int), vint (m : Int)] w (fun v w' => v = .bool (decidesB (L.map (·.xs)) f m) ∧ Ext w w') := by
  have hLL : (L.map (·.xs)).length = L.length := List.length_map _
  have hpl : ∀ l : List Int, (part l f m).length ≤ 9 := fun l => part_le hm
  have hB := Below.refl w.heap.size w
  have hsz : w.heap.size ≤ w.heap.size := Nat.le_refl _
  refine ret_of_runs (args := [_, _, _]) Try.func71 rfl (Nat.le_of_ble_eq_true rfl) (by kernel_rfl) ?_
  refine r_seq ?_
  refine r_region' ?_
  refine l_q (q_assign (v := .bool _) rfl rfl) ?_
  refine l_nil ?_
  refine r_forget [(0, .slice _ _ _), (1, .int _ _), (2, .int _ _)] ⟨rfl, rfl, rfl, trivial⟩ (fun e1 => ?_)
  refine r_seq ?_
  refine r_seq ?_
  refine r_region' ?_
  refine l_q (q_move (v := .slice _ _ _) rfl rfl) ?_
  refine l_q (q_len rfl Try.underlying48 rfl rfl) ?_
  refine l_q (q_move (v := .int _ _) rfl rfl) ?_
  refine l_nil ?_
  refine r_block ?_
  refine r_rounds (α := Nat) (fun i e wl => Knows e [(0, .slice la L.length lc), (1, vint (f : Int)), (2, vint (m : Int)), (11, .slice la L.length lc), (12, vint (L.length : Int)), (13, vint (i : Int))] ∧ (i ≤ L.length) ∧ (∀ i2, i2 < i → ∀ j, j < i2 → part (L.getD i2 sv0).xs f m ≠ part (L.getD j sv0).xs f m) ∧ (w.heap.size ≤ wl.heap.size) ∧ (Below w.heap.size w wl)) (fun i => L.length - i) 0 ?_ ?_
  · skip
    exact ⟨⟨rfl, rfl, rfl, rfl, rfl, rfl, trivial⟩, (Nat.zero_le _), (fun i hi => absurd hi (Nat.not_lt_zero _)), hsz, hB⟩
  · skip
    rintro i el2 wl2 ⟨hkn, hki, hq, hsz, hB⟩ ih2
    obtain ⟨e2, rfl⟩ := knows_env hkn
    refine r_seq ?_
    refine r_region' ?_
    refine l_q (q_lss rfl rfl rfl) ?_
    refine l_nil ?_
    refine r_seq ?_
    refine r_cond rfl (fun hc3 => ?_) (fun hc3 => ?_)
    · skip
      try simp only [decide_eq_true_eq, decide_eq_false_iff_not, Bool.not_eq_true', Bool.not_eq_false', Bool.not_not, Bool.not_true, Bool.not_false, Bool.not_eq_true, Bool.not_eq_false, Int.not_lt, Int.not_le, Bool.and_eq_true, Bool.or_eq_true, Bool.and_eq_false_iff, Bool.or_eq_false_iff] at hc3
      have hil : i < L.length := by omega
      have hel := hle _ (getD_lt (d := sv0) hil)
      have htk : (L.take i).length = i := by rw [List.length_take]; omega
      refine r_skip ?_
      refine r_seq ?_
      refine r_block ?_
      refine r_seq ?_
      refine r_region' ?_
      refine l_q (q_move (v := .int _ _) rfl rfl) ?_
      have hr5 := (hlr.below hB).get (i := i) (by omega)
      obtain ⟨b4, o4, ha4, hh4⟩ := (hl.below hB).at1 i ((L).getD i sv0) (getD_some (by omega))
      refine l_q (q_indexAddr1 Try.underlying48 Try.sizeOf25 rfl ha4 rfl (by omega) rfl) ?_
      refine l_q (q_load Try.isAgg25 rfl (hh4) rfl) ?_
      refine l_q (q_assign (v := .int _ _) rfl rfl) ?_
      refine l_q (q_assign (v := .slice _ _ _) rfl rfl) ?_
      refine l_nil ?_
      refine r_forget [(0, .slice _ _ _), (1, .int _ _), (2, .int _ _), (7, .int _ _), (8, .slice _ _ _), (11, .slice _ _ _), (12, .int _ _), (13, .int _ _)] ⟨rfl, rfl, rfl, rfl, rfl, rfl, rfl, rfl, trivial⟩ (fun e6 => ?_)
      refine r_seq ?_
      refine r_region' ?_
      refine l_q (q_move (v := .slice _ _ _) rfl rfl) ?_
      refine l_q (q_move (v := .int _ _) rfl rfl) ?_
      obtain ⟨a7, c7, hr7, hv7⟩ := slice_ex_hi (f := SV.enc) (xs := L) ((i : Int)) (hl.below hB) (by omega)
      refine l_q ((q_slice (lo := 0) (hi := (i : Int)) Try.underlying48 Try.sizeOf25 rfl rfl rfl (by omega) (hl.below hB).2.1 rfl).cast hv7) ?_
      have hrs7 := (hlr.below hB).take i
      refine l_q (q_len rfl Try.underlying48 rfl rfl) ?_
      refine l_q (q_move (v := .int _ _) rfl rfl) ?_
      refine l_nil ?_
      refine r_forget [(0, .slice _ _ _), (1, .int _ _), (2, .int _ _), (8, .slice _ _ _), (11, .slice _ _ _), (12, .int _ _), (13, .int _ _), (20, .slice _ _ _), (21, .int _ _), (22, .int _ _)] ⟨rfl, rfl, rfl, rfl, rfl, rfl, rfl, rfl, rfl, rfl, trivial⟩ (fun e8 => ?_)
      refine r_block ?_
      refine r_rounds (α := Nat) (fun j e wl => Knows e [(0, .slice la L.length lc), (1, vint (f : Int)), (2, vint (m : Int)), (8, .slice (((L).getD i sv0).a) (((L).getD i sv0).xs.length) (((L).getD i sv0).c)), (11, .slice la L.length lc), (12, vint (L.length : Int)), (13, vint (i : Int)), (20, .slice a7 (((L).take i).length) c7), (21, vint (((L).take i).length : Int)), (22, vint (j : Int))] ∧ (j ≤ i) ∧ (∀ j2, j2 < j → part (L.getD i sv0).xs f m ≠ part (L.getD j2 sv0).xs f m) ∧ (Row wl (((L).getD i sv0).a) (((L).getD i sv0).xs.length) (((L).getD i sv0).c) 1 (((L).getD i sv0).xs.map vint)) ∧ (RowsI wl ((L).take i)) ∧ (Row wl a7 (((L).take i).length) c7 1 (((L).take i).map SV.enc)) ∧ (w.heap.size ≤ wl.heap.size) ∧ (Below w.heap.size w wl)) (fun j => i - j) 0 ?_ ?_
      · skip
        exact ⟨⟨rfl, rfl, rfl, rfl, rfl, rfl, rfl, rfl, rfl, rfl, trivial⟩, (Nat.zero_le _), (fun i hi => absurd hi (Nat.not_lt_zero _)), hr5, hrs7, hr7, hsz, hB⟩
      · skip
        rintro j el9 wl9 ⟨hkn, hkj, hr, hr5, hrs7, hr7, hsz, hB⟩ ih9
        obtain ⟨e9, rfl⟩ := knows_env hkn
        refine r_seq ?_
        refine r_region' ?_
        refine l_q (q_lss rfl rfl rfl) ?_
        refine l_nil ?_
        refine r_seq ?_
        refine r_cond rfl (fun hc10 => ?_) (fun hc10 => ?_)
        · skip
          try simp only [decide_eq_true_eq, decide_eq_false_iff_not, Bool.not_eq_true', Bool.not_eq_false', Bool.not_not, Bool.not_true, Bool.not_false, Bool.not_eq_true, Bool.not_eq_false, Int.not_lt, Int.not_le, Bool.and_eq_true, Bool.or_eq_true, Bool.and_eq_false_iff, Bool.or_eq_false_iff] at hc10
          have hjt : (L.take i).getD j sv0 = L.getD j sv0 := getD_take (by omega)
          have hem := hle _ (getD_lt (d := sv0) (show j < L.length by omega))
          rw [← hjt] at hem
          refine r_skip ?_
          refine r_seq ?_
          refine r_block ?_
          refine r_seq ?_
          refine r_region' ?_
          have hr12 := hrs7.get (i := j) (by omega)
          obtain ⟨b11, o11, ha11, hh11⟩ := hr7.at1 j (((L).take i).getD j sv0) (getD_some (by omega))
          refine l_q (q_indexAddr1 Try.underlying48 Try.sizeOf25 rfl ha11 rfl (by omega) rfl) ?_
          refine l_q (q_load Try.isAgg25 rfl (hh11) rfl) ?_
          refine l_q (q_assign (v := .slice _ _ _) rfl rfl) ?_
          refine l_nil ?_
          refine r_forget [(0, .slice _ _ _), (1, .int _ _), (2, .int _ _), (8, .slice _ _ _), (10, .slice _ _ _), (11, .slice _ _ _), (12, .int _ _), (13, .int _ _), (20, .slice _ _ _), (21, .int _ _), (22, .int _ _)] ⟨rfl, rfl, rfl, rfl, rfl, rfl, rfl, rfl, rfl, rfl, rfl, trivial⟩ (fun e13 => ?_)
          refine r_seq ?_
          refine r_region' ?_
          refine l_q (q_move (v := .slice _ _ _) rfl rfl) ?_
          refine l_q (q_move (v := .int _ _) rfl rfl) ?_
          refine l_q (q_move (v := .int _ _) rfl rfl) ?_
          refine l_o (o_call Try.call98 rfl (fpart_ret _ _ _ f m _ hr5 (by omega) hf hm) rfl ?_)
          rintro _ w14 ⟨a14_0, c14_0, rfl, hr14_0, hE14⟩
          replace hB := below_ext hB hE14 hsz
          replace hr5 := hr5.ext hE14
          replace hrs7 := hrs7.ext hE14
          replace hr7 := hr7.ext hE14
          replace hr12 := hr12.ext hE14
          replace hsz := Nat.le_trans hsz hE14.size
          refine l_q (q_move (v := .slice _ _ _) rfl rfl) ?_
          refine l_q (q_move (v := .int _ _) rfl rfl) ?_
          refine l_q (q_move (v := .int _ _) rfl rfl) ?_
          refine l_o (o_call Try.call98 rfl (fpart_ret _ _ _ f m _ hr12 (by omega) hf hm) rfl ?_)
          rintro _ w15 ⟨a15_0, c15_0, rfl, hr15_0, hE15⟩
          replace hB := below_ext hB hE15 hsz
          replace hr5 := hr5.ext hE15
          replace hrs7 := hrs7.ext hE15
          replace hr7 := hr7.ext hE15
          replace hr12 := hr12.ext hE15
          replace hr14_0 := hr14_0.ext hE15
          replace hsz := Nat.le_trans hsz hE15.size
          refine l_o (o_call Try.call97 rfl (equal_ret _ _ _ _ _ _ _ hr14_0 (Nat.le_trans (hpl _) (by decide)) hr15_0 (Nat.le_trans (hpl _) (by decide))) rfl ?_)
          rintro _ w16 ⟨rfl, hE16⟩
          replace hB := below_ext hB hE16 hsz
          replace hr5 := hr5.ext hE16
          replace hrs7 := hrs7.ext hE16
          replace hr7 := hr7.ext hE16
          replace hr12 := hr12.ext hE16
          replace hr14_0 := hr14_0.ext hE16
          replace hr15_0 := hr15_0.ext hE16
          replace hsz := Nat.le_trans hsz hE16.size
          refine l_nil ?_
          refine r_forget [(0, .slice _ _ _), (1, .int _ _), (2, .int _ _), (8, .slice _ _ _), (11, .slice _ _ _), (12, .int _ _), (13, .int _ _), (20, .slice _ _ _), (21, .int _ _), (22, .int _ _), (34, .bool _)] ⟨rfl, rfl, rfl, rfl, rfl, rfl, rfl, rfl, rfl, rfl, rfl, trivial⟩ (fun e17 => ?_)
          refine r_cond rfl (fun hc18 => ?_) (fun hc18 => ?_)
          · skip
            try simp only [decide_eq_true_eq, decide_eq_false_iff_not, Bool.not_eq_true', Bool.not_eq_false', Bool.not_not, Bool.not_true, Bool.not_false, Bool.not_eq_true, Bool.not_eq_false, Int.not_lt, Int.not_le, Bool.and_eq_true, Bool.or_eq_true, Bool.and_eq_false_iff, Bool.or_eq_false_iff] at hc18
            refine r_seq ?_
            refine r_region' ?_
            refine l_q (q_assign (v := .bool _) rfl rfl) ?_
            refine l_nil ?_
            refine r_forget [(6, .bool _)] ⟨rfl, trivial⟩ (fun e19 => ?_)
            refine r_ret_ (vs := [.bool _]) rfl Try.func71 rfl (.nil _) ⟨rfl, trivial⟩ ?_
            exact ⟨vbool_eq (dec_bad (i := i) (j := j) (by omega) (by omega) (by rw [← hjt]; assumption)).symm, Ext.of_below hB⟩
          · skip
            try simp only [decide_eq_true_eq, decide_eq_false_iff_not, Bool.not_eq_true', Bool.not_eq_false', Bool.not_not, Bool.not_true, Bool.not_false, Bool.not_eq_true, Bool.not_eq_false, Int.not_lt, Int.not_le, Bool.and_eq_true, Bool.or_eq_true, Bool.and_eq_false_iff, Bool.or_eq_false_iff] at hc18
            refine r_skip ?_
            refine r_inBlock ?_
            refine r_region' ?_
            refine l_q (q_add rfl rfl (by omega) rfl) ?_
            refine l_q (q_move (v := .int _ _) rfl rfl) ?_
            refine l_nil ?_
            refine r_forget [(0, .slice _ _ _), (1, .int _ _), (2, .int _ _), (8, .slice _ _ _), (11, .slice _ _ _), (12, .int _ _), (13, .int _ _), (20, .slice _ _ _), (21, .int _ _), (22, .int _ _)] ⟨rfl, rfl, rfl, rfl, rfl, rfl, rfl, rfl, rfl, rfl, trivial⟩ (fun e20 => ?_)
            exact ih9 (j + 1) _ _ ⟨⟨rfl, rfl, rfl, rfl, rfl, rfl, rfl, rfl, rfl, by first | rfl | exact vint_eq (by omega), trivial⟩, (by omega), (fun j hj => by rcases Nat.lt_succ_iff_lt_or_eq.1 hj with h | h; exact hr j h; subst h; rw [← hjt]; assumption), hr5, hrs7, hr7, hsz, hB⟩ (by first | omega | (dsimp only; omega))
        · skip
          try simp only [decide_eq_true_eq, decide_eq_false_iff_not, Bool.not_eq_true', Bool.not_eq_false', Bool.not_not, Bool.not_true, Bool.not_false, Bool.not_eq_true, Bool.not_eq_false, Int.not_lt, Int.not_le, Bool.and_eq_true, Bool.or_eq_true, Bool.and_eq_false_iff, Bool.or_eq_false_iff] at hc10
          refine r_exit rfl ?_
          refine r_inBlock ?_
          refine r_region' ?_
          refine l_q (q_add rfl rfl (by omega) rfl) ?_
          refine l_q (q_move (v := .int _ _) rfl rfl) ?_
          refine l_nil ?_
          refine r_forget [(0, .slice _ _ _), (1, .int _ _), (2, .int _ _), (11, .slice _ _ _), (12, .int _ _), (13, .int _ _)] ⟨rfl, rfl, rfl, rfl, rfl, rfl, trivial⟩ (fun e21 => ?_)
          exact ih2 (i + 1) _ _ ⟨⟨rfl, rfl, rfl, rfl, rfl, by first | rfl | exact vint_eq (by omega), trivial⟩, (by omega), (fun j hj => by rcases Nat.lt_succ_iff_lt_or_eq.1 hj with h | h; exact hq j h; subst h; exact fun j2 hj2 => hr j2 (by omega)), hsz, hB⟩ (by first | omega | (dsimp only; omega))
    · skip
      try simp only [decide_eq_true_eq, decide_eq_false_iff_not, Bool.not_eq_true', Bool.not_eq_false', Bool.not_not, Bool.not_true, Bool.not_false, Bool.not_eq_true, Bool.not_eq_false, Int.not_lt, Int.not_le, Bool.and_eq_true, Bool.or_eq_true, Bool.and_eq_false_iff, Bool.or_eq_false_iff] at hc3
      refine r_exit rfl ?_
      refine r_seq ?_
      refine r_region' ?_
      refine l_q (q_assign (v := .bool _) rfl rfl) ?_
      refine l_nil ?_
      refine r_forget [(6, .bool _)] ⟨rfl, trivial⟩ (fun e22 => ?_)
      refine r_ret_ (vs := [.bool _]) rfl Try.func71 rfl (.nil _) ⟨rfl, trivial⟩ ?_
      exact ⟨vbool_eq (dec_good (fun i hi j hj => hq i (by omega) j hj)).symm, Ext.of_below hB⟩
theorem rrepeat_ret (la : Option Addr) (lc : Nat) (L : List SV) (w : World) (hl : Row w la L.length lc 1 (L.map SV.enc)) (hlr : RowsI w L) (hln : L.length ≤ 2097152) (hle : ∀ s ∈ L, s.xs.length ≤ 2097152) (hdec : decidesB (L.map (·.xs)) 0 5 = true) : Ret Try.prog 40 [.slice la L.length lc] w (fun v w' => v = .tuple ⟨[vint ((rep (L.map (·.xs)) 6).1 : Int), vint ((rep (L.map (·.xs)) 6).2 : Int)]⟩ ∧ Ext w w') := by
  have hB := Below.refl w.heap.size w
  have hsz : w.heap.size ≤ w.heap.size := Nat.le_refl _
  refine ret_of_runs (args := [_]) Try.func40 rfl (Nat.le_of_ble_eq_true rfl) (by kernel_rfl) ?_
  refine r_seq ?_
  refine r_region' ?_
  refine l_q (q_assign (v := .int _ _) rfl rfl) ?_
  refine l_q (q_assign (v := .int _ _) rfl rfl) ?_
  refine l_nil ?_
  refine r_forget [(0, .slice _ _ _)] ⟨rfl, trivial⟩ (fun e1 => ?_)
  refine r_seq ?_
  refine r_seq ?_
  refine r_region' ?_
  refine l_q (q_assign (v := .int _ _) rfl rfl) ?_
  refine l_nil ?_
  refine r_block ?_
  refine r_rounds (α := Nat) (fun m e wl => Knows e [(0, .slice la L.length lc), (4, vint (m : Int))] ∧ (m ≤ 6) ∧ (∀ i, i < m * 6 → decidesB (L.map (·.xs)) (i % 6) (i / 6) = false) ∧ (w.heap.size ≤ wl.heap.size) ∧ (Below w.heap.size w wl)) (fun m => 6 - m) 0 ?_ ?_
  · skip
    exact ⟨⟨rfl, rfl, trivial⟩, (Nat.zero_le _), (fun i hi => by omega), hsz, hB⟩
  · skip
    rintro m el2 wl2 ⟨hkn, hkm, hq, hsz, hB⟩ ih2
    obtain ⟨e2, rfl⟩ := knows_env hkn
    refine r_seq ?_
    refine r_seq ?_
    refine r_region' ?_
    refine l_q (q_move (v := .int _ _) rfl rfl) ?_
    refine l_q (q_leq rfl rfl rfl) ?_
    refine l_nil ?_
    refine r_forget [(0, .slice _ _ _), (4, .int _ _), (7, .bool _)] ⟨rfl, rfl, rfl, trivial⟩ (fun e3 => ?_)
    refine r_cond rfl (fun hc4 => ?_) (fun hc4 => ?_)
    · skip
      try simp only [decide_eq_true_eq, decide_eq_false_iff_not, Bool.not_eq_true', Bool.not_eq_false', Bool.not_not, Bool.not_true, Bool.not_false, Bool.not_eq_true, Bool.not_eq_false, Int.not_lt, Int.not_le, Bool.and_eq_true, Bool.or_eq_true, Bool.and_eq_false_iff, Bool.or_eq_false_iff] at hc4
      refine r_skip ?_
      refine r_seq ?_
      refine r_block ?_
      refine r_seq ?_
      refine r_region' ?_
      refine l_q (q_assign (v := .int _ _) rfl rfl) ?_
      refine l_nil ?_
      refine r_forget [(0, .slice _ _ _), (4, .int _ _), (5, .int _ _)] ⟨rfl, rfl, rfl, trivial⟩ (fun e5 => ?_)
      refine r_block ?_
      refine r_rounds (α := Nat) (fun f e wl => Knows e [(0, .slice la L.length lc), (4, vint (m : Int)), (5, vint (f : Int))] ∧ (f ≤ 6) ∧ (∀ i, i < m * 6 + f → decidesB (L.map (·.xs)) (i % 6) (i / 6) = false) ∧ (w.heap.size ≤ wl.heap.size) ∧ (Below w.heap.size w wl)) (fun f => 6 - f) 0 ?_ ?_
      · skip
        exact ⟨⟨rfl, rfl, rfl, trivial⟩, (Nat.zero_le _), (fun i hi => hq i (by omega)), hsz, hB⟩
      · skip
        rintro f el6 wl6 ⟨hkn, hkf, hr, hsz, hB⟩ ih6
        obtain ⟨e6, rfl⟩ := knows_env hkn
        refine r_seq ?_
        refine r_seq ?_
        refine r_region' ?_
        refine l_q (q_move (v := .int _ _) rfl rfl) ?_
        refine l_q (q_leq rfl rfl rfl) ?_
        refine l_nil ?_
        refine r_forget [(0, .slice _ _ _), (4, .int _ _), (5, .int _ _), (11, .bool _)] ⟨rfl, rfl, rfl, rfl, trivial⟩ (fun e7 => ?_)
        refine r_cond rfl (fun hc8 => ?_) (fun hc8 => ?_)
        · skip
          try simp only [decide_eq_true_eq, decide_eq_false_iff_not, Bool.not_eq_true', Bool.not_eq_false', Bool.not_not, Bool.not_true, Bool.not_false, Bool.not_eq_true, Bool.not_eq_false, Int.not_lt, Int.not_le, Bool.and_eq_true, Bool.or_eq_true, Bool.and_eq_false_iff, Bool.or_eq_false_iff] at hc8
          refine r_skip ?_
          refine r_seq ?_
          refine r_block ?_
          refine r_seq ?_
          refine r_region' ?_
          refine l_q (q_move (v := .slice _ _ _) rfl rfl) ?_
          refine l_q (q_move (v := .int _ _) rfl rfl) ?_
          refine l_q (q_move (v := .int _ _) rfl rfl) ?_
          refine l_o (o_call Try.call44 rfl (rdecides_ret _ _ _ f m _ (hl.below hB) (hlr.below hB) (by omega) (by assumption) (by omega) (by omega)) rfl ?_)
          rintro _ w9 ⟨rfl, hE9⟩
          replace hB := below_ext hB hE9 hsz
          replace hsz := Nat.le_trans hsz hE9.size
          refine l_nil ?_
          refine r_forget [(0, .slice _ _ _), (4, .int _ _), (5, .int _ _), (17, .bool _)] ⟨rfl, rfl, rfl, rfl, trivial⟩ (fun e10 => ?_)
          refine r_cond rfl (fun hc11 => ?_) (fun hc11 => ?_)
          · skip
            try simp only [decide_eq_true_eq, decide_eq_false_iff_not, Bool.not_eq_true', Bool.not_eq_false', Bool.not_not, Bool.not_true, Bool.not_false, Bool.not_eq_true, Bool.not_eq_false, Int.not_lt, Int.not_le, Bool.and_eq_true, Bool.or_eq_true, Bool.and_eq_false_iff, Bool.or_eq_false_iff] at hc11
            refine r_seq ?_
            refine r_region' ?_
            refine l_q (q_move (v := .int _ _) rfl rfl) ?_
            refine l_q (q_move (v := .int _ _) rfl rfl) ?_
            refine l_q (q_assign (v := .int _ _) rfl rfl) ?_
            refine l_q (q_assign (v := .int _ _) rfl rfl) ?_
            refine l_nil ?_
            refine r_forget [(2, .int _ _), (3, .int _ _)] ⟨rfl, rfl, trivial⟩ (fun e12 => ?_)
            refine r_ret_ (vs := [.int _ _, .int _ _]) rfl Try.func40 rfl (.nil _) ⟨rfl, rfl, trivial⟩ ?_
            exact ⟨tup2 (vint_eq (by rw [rep6 (m := m) (f := f) (by omega) (by omega) (by assumption) hr])) (vint_eq (by rw [rep6 (m := m) (f := f) (by omega) (by omega) (by assumption) hr])), Ext.of_below hB⟩
          · skip
            try simp only [decide_eq_true_eq, decide_eq_false_iff_not, Bool.not_eq_true', Bool.not_eq_false', Bool.not_not, Bool.not_true, Bool.not_false, Bool.not_eq_true, Bool.not_eq_false, Int.not_lt, Int.not_le, Bool.and_eq_true, Bool.or_eq_true, Bool.and_eq_false_iff, Bool.or_eq_false_iff] at hc11
            refine r_skip ?_
            refine r_inBlock ?_
            refine r_region' ?_
            refine l_q (q_move (v := .int _ _) rfl rfl) ?_
            refine l_q (q_add rfl rfl (by omega) rfl) ?_
            refine l_q (q_assign (v := .int _ _) rfl rfl) ?_
            refine l_nil ?_
            refine r_forget [(0, .slice _ _ _), (4, .int _ _), (5, .int _ _)] ⟨rfl, rfl, rfl, trivial⟩ (fun e13 => ?_)
            exact ih6 (f + 1) _ _ ⟨⟨rfl, rfl, by first | rfl | exact vint_eq (by omega), trivial⟩, (by omega), (fun i hi => by rcases (show i < m * 6 + f ∨ i = m * 6 + f by omega) with h | h; exact hr i h; rw [h, show (m * 6 + f) % 6 = f by omega, show (m * 6 + f) / 6 = m by omega]; assumption), hsz, hB⟩ (by first | omega | (dsimp only; omega))
        · skip
          try simp only [decide_eq_true_eq, decide_eq_false_iff_not, Bool.not_eq_true', Bool.not_eq_false', Bool.not_not, Bool.not_true, Bool.not_false, Bool.not_eq_true, Bool.not_eq_false, Int.not_lt, Int.not_le, Bool.and_eq_true, Bool.or_eq_true, Bool.and_eq_false_iff, Bool.or_eq_false_iff] at hc8
          refine r_exit rfl ?_
          refine r_inBlock ?_
          refine r_region' ?_
          refine l_q (q_move (v := .int _ _) rfl rfl) ?_
          refine l_q (q_add rfl rfl (by omega) rfl) ?_
          refine l_q (q_assign (v := .int _ _) rfl rfl) ?_
          refine l_nil ?_
          refine r_forget [(0, .slice _ _ _), (4, .int _ _)] ⟨rfl, rfl, trivial⟩ (fun e14 => ?_)
          exact ih2 (m + 1) _ _ ⟨⟨rfl, by first | rfl | exact vint_eq (by omega), trivial⟩, (by omega), (fun i hi => hr i (by omega)), hsz, hB⟩ (by first | omega | (dsimp only; omega))
    · skip
      try simp only [decide_eq_true_eq, decide_eq_false_iff_not, Bool.not_eq_true', Bool.not_eq_false', Bool.not_not, Bool.not_true, Bool.not_false, Bool.not_eq_true, Bool.not_eq_false, Int.not_lt, Int.not_le, Bool.and_eq_true, Bool.or_eq_true, Bool.and_eq_false_iff, Bool.or_eq_false_iff] at hc4
      refine r_exit rfl ?_
      refine r_seq ?_
      refine r_region' ?_
      refine l_q (q_assign (v := .int _ _) rfl rfl) ?_
      refine l_q (q_assign (v := .int _ _) rfl rfl) ?_
      refine l_nil ?_
      refine r_forget [(2, .int _ _), (3, .int _ _)] ⟨rfl, rfl, trivial⟩ (fun e15 => ?_)
      refine r_ret_ (vs := [.int _ _, .int _ _]) rfl Try.func40 rfl (.nil _) ⟨rfl, rfl, trivial⟩ ?_
      have hb5 := hq 30 (by omega)
      exact absurd (hdec.symm.trans hb5) (by decide)
theorem grow_ret (n : Int) (w : World) (hn : 0 ≤ n ∧ n ≤ 8796093022208) : Ret Try.prog 96 [.slice none 0 0, vint n] w (fun v w' => ∃ ra0 rc0, v = .slice ra0 (([] : List Int)).length rc0 ∧ w'.ownsRow w.heap.size 3 1 (.slice ra0 (([] : List Int)).length rc0) (([] : List Int)).length ((([] : List Int)).map vint) ∧ Ext w w') := by
  have hB := Below.refl w.heap.size w
  have hsz : w.heap.size ≤ w.heap.size := Nat.le_refl _
  refine ret_of_runs (args := [_, _]) Try.func96 rfl (Nat.le_of_ble_eq_true rfl) (by kernel_rfl) ?_
  refine r_seq ?_
  refine r_region' ?_
  refine l_q (q_assign (v := .slice _ _ _) rfl rfl) ?_
  refine l_nil ?_
  refine r_forget [(0, .slice _ _ _), (1, .int _ _)] ⟨rfl, rfl, trivial⟩ (fun e1 => ?_)
  refine r_seq ?_
  refine r_seq ?_
  refine r_region' ?_
  refine l_q (q_move (v := .int _ _) rfl rfl) ?_
  refine l_q (q_lss rfl rfl rfl) ?_
  refine l_nil ?_
  refine r_forget [(0, .slice _ _ _), (1, .int _ _), (6, .bool _)] ⟨rfl, rfl, rfl, trivial⟩ (fun e2 => ?_)
  refine r_cond rfl (fun hc3 => ?_) (fun hc3 => ?_)
  · skip
    try simp only [decide_eq_true_eq, decide_eq_false_iff_not, Bool.not_eq_true', Bool.not_eq_false', Bool.not_not, Bool.not_true, Bool.not_false, Bool.not_eq_true, Bool.not_eq_false, Int.not_lt, Int.not_le, Bool.and_eq_true, Bool.or_eq_true, Bool.and_eq_false_iff, Bool.or_eq_false_iff] at hc3
    omega
  · skip
    try simp only [decide_eq_true_eq, decide_eq_false_iff_not, Bool.not_eq_true', Bool.not_eq_false', Bool.not_not, Bool.not_true, Bool.not_false, Bool.not_eq_true, Bool.not_eq_false, Int.not_lt, Int.not_le, Bool.and_eq_true, Bool.or_eq_true, Bool.and_eq_false_iff, Bool.or_eq_false_iff] at hc3
    refine r_skip ?_
    refine r_seq ?_
    refine r_seq ?_
    refine r_region' ?_
    refine l_q (q_move (v := .int _ _) rfl rfl) ?_
    refine l_q (q_move (v := .slice _ _ _) rfl rfl) ?_
    refine l_q (q_cap rfl Try.underlying25 rfl rfl) ?_
    refine l_q (q_move (v := .slice _ _ _) rfl rfl) ?_
    refine l_q (q_len rfl Try.underlying25 rfl rfl) ?_
    refine l_q (q_sub rfl rfl (by omega) rfl) ?_
    refine l_q (q_sub rfl rfl (by omega) rfl) ?_
    refine l_q (q_assign (v := .int _ _) rfl rfl) ?_
    refine l_nil ?_
    refine r_forget [(0, .slice _ _ _), (1, .int _ _)] ⟨rfl, rfl, trivial⟩ (fun e4 => ?_)
    refine r_seq ?_
    refine r_region' ?_
    refine l_q (q_move (v := .int _ _) rfl rfl) ?_
    refine l_q (q_gtr rfl rfl rfl) ?_
    refine l_nil ?_
    refine r_forget [(0, .slice _ _ _), (1, .int _ _), (16, .bool _)] ⟨rfl, rfl, rfl, trivial⟩ (fun e5 => ?_)
    refine r_cond rfl (fun hc6 => ?_) (fun hc6 => ?_)
    · skip
      try simp only [decide_eq_true_eq, decide_eq_false_iff_not, Bool.not_eq_true', Bool.not_eq_false', Bool.not_not, Bool.not_true, Bool.not_false, Bool.not_eq_true, Bool.not_eq_false, Int.not_lt, Int.not_le, Bool.and_eq_true, Bool.or_eq_true, Bool.and_eq_false_iff, Bool.or_eq_false_iff] at hc6
      refine r_region' ?_
      refine l_q (q_move (v := .slice _ _ _) rfl rfl) ?_
      refine l_q (q_move (v := .slice _ _ _) rfl rfl) ?_
      refine l_q (q_cap rfl Try.underlying25 rfl rfl) ?_
      refine l_q ((q_slice (lo := 0) (hi := (0 : Int)) Try.underlying25 Try.sizeOf3 rfl rfl rfl (by omega) (Nat.le_refl _) rfl).cast (v' := .slice none 0 0) (by rfl)) ?_
      refine l_q (q_move (v := .int _ _) rfl rfl) ?_
      obtain ⟨n7, hn7⟩ : ∃ m : Nat, n - ((0 : Int) - 0) = m := ⟨(n - ((0 : Int) - 0)).toNat, by omega⟩
      refine l_o (o_append_make (m := n7) Try.underlying25 Try.underlying3 el3 rfl rfl (vint_eq hn7) (by unfold maxLen; omega) (by omega) (by omega) rfl ?_)
      intro b7 c7 w7 hz7 hmc7 ho7 hE7
      replace hB := below_ext hB hE7 hsz
      replace hsz := Nat.le_trans hsz hE7.size
      refine l_q (q_move (v := .slice _ _ _) rfl rfl) ?_
      refine l_q (q_len rfl Try.underlying25 rfl rfl) ?_
      refine l_q ((q_slice (lo := 0) (hi := 0) Try.underlying25 Try.sizeOf3 rfl rfl rfl (by omega) hmc7 rfl).cast (v' := .slice (some ⟨b7, 0, none⟩) 0 c7) (made_hi _ _)) ?_
      refine l_q (q_assign (v := .slice _ _ _) rfl rfl) ?_
      refine l_nil ?_
      refine r_forget [(0, .slice _ _ _)] ⟨rfl, trivial⟩ (fun e8 => ?_)
      refine r_seq ?_
      refine r_region' ?_
      refine l_q (q_move (v := .slice _ _ _) rfl rfl) ?_
      refine l_q (q_assign (v := .slice _ _ _) rfl rfl) ?_
      refine l_nil ?_
      refine r_forget [(4, .slice _ _ _)] ⟨rfl, trivial⟩ (fun e9 => ?_)
      refine r_ret_ (vs := [.slice _ _ _]) rfl Try.func96 rfl (.nil _) ⟨rfl, trivial⟩ ?_
      first | exact ⟨_, _, rfl, World.ownsRow_nil _ _ _ _, Ext.of_below hB⟩ | exact ⟨_, _, rfl, (by assumption), Ext.of_below hB⟩
    · skip
      try simp only [decide_eq_true_eq, decide_eq_false_iff_not, Bool.not_eq_true', Bool.not_eq_false', Bool.not_not, Bool.not_true, Bool.not_false, Bool.not_eq_true, Bool.not_eq_false, Int.not_lt, Int.not_le, Bool.and_eq_true, Bool.or_eq_true, Bool.and_eq_false_iff, Bool.or_eq_false_iff] at hc6
      refine r_skip ?_
      refine r_seq ?_
      refine r_region' ?_
      refine l_q (q_move (v := .slice _ _ _) rfl rfl) ?_
      refine l_q (q_assign (v := .slice _ _ _) rfl rfl) ?_
      refine l_nil ?_
      refine r_forget [(4, .slice _ _ _)] ⟨rfl, trivial⟩ (fun e10 => ?_)
      refine r_ret_ (vs := [.slice _ _ _]) rfl Try.func96 rfl (.nil _) ⟨rfl, trivial⟩ ?_
      first | exact ⟨_, _, rfl, World.ownsRow_nil _ _ _ _, Ext.of_below hB⟩ | exact ⟨_, _, rfl, (by assumption), Ext.of_below hB⟩
theorem concat_ret (la : Option Addr) (lc : Nat) (L : List SV) (w : World) (hl : Row w la L.length lc 1 (L.map SV.enc)) (hlr : RowsI w L) (hln : L.length ≤ 2097152) (hle : ∀ s ∈ L, s.xs.length ≤ 2097152) : Ret Try.prog 69 [.slice la L.length lc] w (fun v w' => ∃ ra0 rc0, v = .slice ra0 (catL L).length rc0 ∧ w'.ownsRow w.heap.size 3 1 (.slice ra0 (catL L).length rc0) (catL L).length ((catL L).map vint) ∧ Ext w w') := by
  have hB := Below.refl w.heap.size w
  have hsz : w.heap.size ≤ w.heap.size := Nat.le_refl _
  refine ret_of_runs (args := [_]) Try.func69 rfl (Nat.le_of_ble_eq_true rfl) (by kernel_rfl) ?_
  refine r_seq ?_
  refine r_region' ?_
  refine l_q (q_assign (v := .slice _ _ _) rfl rfl) ?_
  refine l_nil ?_
  refine r_forget [(0, .slice _ _ _)] ⟨rfl, trivial⟩ (fun e1 => ?_)
  refine r_seq ?_
  refine r_region' ?_
  refine l_q (q_assign (v := .int _ _) rfl rfl) ?_
  refine l_nil ?_
  refine r_seq ?_
  refine r_seq ?_
  refine r_region' ?_
  refine l_q (q_move (v := .slice _ _ _) rfl rfl) ?_
  refine l_q (q_len rfl Try.underlying48 rfl rfl) ?_
  refine l_q (q_move (v := .int _ _) rfl rfl) ?_
  refine l_nil ?_
  refine r_block ?_
  refine r_rounds (α := Nat) (fun k e wl => Knows e [(0, .slice la L.length lc), (3, vint ((catL (L.take k)).length : Int)), (9, .slice la L.length lc), (10, vint (L.length : Int)), (11, vint (k : Int))] ∧ (k ≤ L.length) ∧ ((catL (L.take k)).length ≤ k * 2097152) ∧ (w.heap.size ≤ wl.heap.size) ∧ (Below w.heap.size w wl)) (fun k => L.length - k) 0 ?_ ?_
  · skip
    exact ⟨⟨rfl, rfl, rfl, rfl, rfl, trivial⟩, (Nat.zero_le _), (Nat.zero_le _), hsz, hB⟩
  · skip
    rintro k el2 wl2 ⟨hkn, hkk, hc, hsz, hB⟩ ih2
    obtain ⟨e2, rfl⟩ := knows_env hkn
    refine r_seq ?_
    refine r_region' ?_
    refine l_q (q_lss rfl rfl rfl) ?_
    refine l_nil ?_
    refine r_seq ?_
    refine r_cond rfl (fun hc3 => ?_) (fun hc3 => ?_)
    · skip
      try simp only [decide_eq_true_eq, decide_eq_false_iff_not, Bool.not_eq_true', Bool.not_eq_false', Bool.not_not, Bool.not_true, Bool.not_false, Bool.not_eq_true, Bool.not_eq_false, Int.not_lt, Int.not_le, Bool.and_eq_true, Bool.or_eq_true, Bool.and_eq_false_iff, Bool.or_eq_false_iff] at hc3
      have hkl : k < L.length := by omega
      have hel := hle _ (getD_lt (d := sv0) hkl)
      refine r_skip ?_
      refine r_seq ?_
      refine r_block ?_
      refine r_seq ?_
      refine r_region' ?_
      have hr5 := (hlr.below hB).get (i := k) (by omega)
      obtain ⟨b4, o4, ha4, hh4⟩ := (hl.below hB).at1 k ((L).getD k sv0) (getD_some (by omega))
      refine l_q (q_indexAddr1 Try.underlying48 Try.sizeOf25 rfl ha4 rfl (by omega) rfl) ?_
      refine l_q (q_load Try.isAgg25 rfl (hh4) rfl) ?_
      refine l_q (q_assign (v := .slice _ _ _) rfl rfl) ?_
      refine l_nil ?_
      refine r_forget [(0, .slice _ _ _), (3, .int _ _), (5, .slice _ _ _), (9, .slice _ _ _), (10, .int _ _), (11, .int _ _)] ⟨rfl, rfl, rfl, rfl, rfl, rfl, trivial⟩ (fun e6 => ?_)
      refine r_seq ?_
      refine r_region' ?_
      refine l_q (q_move (v := .int _ _) rfl rfl) ?_
      refine l_q (q_move (v := .slice _ _ _) rfl rfl) ?_
      refine l_q (q_len rfl Try.underlying25 rfl rfl) ?_
      refine l_q (q_add rfl rfl (by omega) rfl) ?_
      refine l_q (q_assign (v := .int _ _) rfl rfl) ?_
      refine l_nil ?_
      refine r_forget [(0, .slice _ _ _), (3, .int _ _), (9, .slice _ _ _), (10, .int _ _), (11, .int _ _)] ⟨rfl, rfl, rfl, rfl, rfl, trivial⟩ (fun e7 => ?_)
      refine r_seq ?_
      refine r_region' ?_
      refine l_q (q_move (v := .int _ _) rfl rfl) ?_
      refine l_q (q_lss rfl rfl rfl) ?_
      refine l_nil ?_
      refine r_forget [(0, .slice _ _ _), (3, .int _ _), (9, .slice _ _ _), (10, .int _ _), (11, .int _ _), (20, .bool _)] ⟨rfl, rfl, rfl, rfl, rfl, rfl, trivial⟩ (fun e8 => ?_)
      refine r_cond rfl (fun hc9 => ?_) (fun hc9 => ?_)
      · skip
        try simp only [decide_eq_true_eq, decide_eq_false_iff_not, Bool.not_eq_true', Bool.not_eq_false', Bool.not_not, Bool.not_true, Bool.not_false, Bool.not_eq_true, Bool.not_eq_false, Int.not_lt, Int.not_le, Bool.and_eq_true, Bool.or_eq_true, Bool.and_eq_false_iff, Bool.or_eq_false_iff] at hc9
        omega
      · skip
        try simp only [decide_eq_true_eq, decide_eq_false_iff_not, Bool.not_eq_true', Bool.not_eq_false', Bool.not_not, Bool.not_true, Bool.not_false, Bool.not_eq_true, Bool.not_eq_false, Int.not_lt, Int.not_le, Bool.and_eq_true, Bool.or_eq_true, Bool.and_eq_false_iff, Bool.or_eq_false_iff] at hc9
        refine r_skip ?_
        refine r_inBlock ?_
        refine r_region' ?_
        refine l_q (q_add rfl rfl (by omega) rfl) ?_
        refine l_q (q_move (v := .int _ _) rfl rfl) ?_
        refine l_nil ?_
        refine r_forget [(0, .slice _ _ _), (3, .int _ _), (9, .slice _ _ _), (10, .int _ _), (11, .int _ _)] ⟨rfl, rfl, rfl, rfl, rfl, trivial⟩ (fun e10 => ?_)
        exact ih2 (k + 1) _ _ ⟨⟨rfl, (vint_eq (by rw [catL_len hkl]; omega)), rfl, rfl, by first | rfl | exact vint_eq (by omega), trivial⟩, (by omega), (by rw [catL_len hkl]; omega), hsz, hB⟩ (by first | omega | (dsimp only; omega))
    · skip
      try simp only [decide_eq_true_eq, decide_eq_false_iff_not, Bool.not_eq_true', Bool.not_eq_false', Bool.not_not, Bool.not_true, Bool.not_false, Bool.not_eq_true, Bool.not_eq_false, Int.not_lt, Int.not_le, Bool.and_eq_true, Bool.or_eq_true, Bool.and_eq_false_iff, Bool.or_eq_false_iff] at hc3
      refine r_exit rfl ?_
      refine r_seq ?_
      refine r_region' ?_
      refine l_q (q_move (v := .int _ _) rfl rfl) ?_
      refine l_o (o_call Try.call96 rfl (grow_ret _ _ (by omega)) rfl ?_)
      rintro _ w11 ⟨a11_0, c11_0, rfl, ho11_0, hE11⟩
      replace ho11_0 := own_mono ho11_0 (show w.heap.size ≤ _ by omega)
      replace hB := below_ext hB hE11 hsz
      replace hsz := Nat.le_trans hsz hE11.size
      refine l_q (q_assign (v := .slice _ _ _) rfl rfl) ?_
      refine l_nil ?_
      refine r_forget [(0, .slice _ _ _), (6, .slice _ _ _)] ⟨rfl, rfl, trivial⟩ (fun e12 => ?_)
      refine r_seq ?_
      refine r_seq ?_
      refine r_region' ?_
      refine l_q (q_move (v := .slice _ _ _) rfl rfl) ?_
      refine l_q (q_len rfl Try.underlying48 rfl rfl) ?_
      refine l_q (q_move (v := .int _ _) rfl rfl) ?_
      refine l_nil ?_
      refine r_forget [(6, .slice _ _ _), (25, .slice _ _ _), (26, .int _ _), (27, .int _ _)] ⟨rfl, rfl, rfl, rfl, trivial⟩ (fun e13 => ?_)
      refine r_block ?_
      refine r_rounds (α := Nat × (Option Addr) × Nat) (fun ⟨k, oa, oc⟩ e wl => Knows e [(6, .slice oa ((catL (L.take k)).length) oc), (25, .slice la L.length lc), (26, vint (L.length : Int)), (27, vint (k : Int))] ∧ (k ≤ L.length) ∧ ((catL (L.take k)).length ≤ k * 2097152) ∧ (wl.ownsRow w.heap.size 3 1 (.slice oa ((catL (L.take k)).length) oc) ((catL (L.take k)).length) ((catL (L.take k)).map vint)) ∧ (w.heap.size ≤ wl.heap.size) ∧ (Below w.heap.size w wl)) (fun ⟨k, oa, oc⟩ => L.length - k) (0, a11_0, c11_0) ?_ ?_
      · skip
        exact ⟨⟨rfl, rfl, rfl, rfl, trivial⟩, (Nat.zero_le _), (Nat.zero_le _), ho11_0, hsz, hB⟩
      · skip
        rintro ⟨k, oa, oc⟩ el14 wl14 ⟨hkn, hkk, hc2, ho, hsz, hB⟩ ih14
        obtain ⟨e14, rfl⟩ := knows_env hkn
        refine r_seq ?_
        refine r_region' ?_
        refine l_q (q_lss rfl rfl rfl) ?_
        refine l_nil ?_
        refine r_seq ?_
        refine r_cond rfl (fun hc15 => ?_) (fun hc15 => ?_)
        · skip
          try simp only [decide_eq_true_eq, decide_eq_false_iff_not, Bool.not_eq_true', Bool.not_eq_false', Bool.not_not, Bool.not_true, Bool.not_false, Bool.not_eq_true, Bool.not_eq_false, Int.not_lt, Int.not_le, Bool.and_eq_true, Bool.or_eq_true, Bool.and_eq_false_iff, Bool.or_eq_false_iff] at hc15
          have hkl : k < L.length := by omega
          have hel := hle _ (getD_lt (d := sv0) hkl)
          refine r_skip ?_
          refine r_seq ?_
          refine r_block ?_
          refine r_seq ?_
          refine r_region' ?_
          have hr17 := (hlr.below hB).get (i := k) (by omega)
          obtain ⟨b16, o16, ha16, hh16⟩ := (hl.below hB).at1 k ((L).getD k sv0) (getD_some (by omega))
          refine l_q (q_indexAddr1 Try.underlying48 Try.sizeOf25 rfl ha16 rfl (by omega) rfl) ?_
          refine l_q (q_load Try.isAgg25 rfl (hh16) rfl) ?_
          refine l_q (q_assign (v := .slice _ _ _) rfl rfl) ?_
          refine l_nil ?_
          refine r_forget [(6, .slice _ _ _), (8, .slice _ _ _), (25, .slice _ _ _), (26, .int _ _), (27, .int _ _)] ⟨rfl, rfl, rfl, rfl, rfl, trivial⟩ (fun e18 => ?_)
          refine r_region' ?_
          refine l_q (q_move (v := .slice _ _ _) rfl rfl) ?_
          refine l_q (q_move (v := .slice _ _ _) rfl rfl) ?_
          refine l_o (o_append_map (f := vint) (catL (L.take k)) (((L).getD k sv0).xs) Try.underlying25 el3 rfl rfl ho rfl hr17 (fun _ => rfl) (by (try simp only [List.length_append, List.length_cons, List.length_nil, List.length_take, List.length_drop, List.length_replicate]); omega) (by omega) rfl ?_)
          intro a19 c19 w19 hz19 ho19 hG19
          replace hB := below_own hB hG19 ho (by omega) hsz
          replace hsz := Nat.le_trans hsz hG19.size
          refine l_q (q_assign (v := .slice _ _ _) rfl rfl) ?_
          refine l_nil ?_
          refine r_forget [(6, .slice _ _ _), (25, .slice _ _ _), (26, .int _ _), (27, .int _ _)] ⟨rfl, rfl, rfl, rfl, trivial⟩ (fun e20 => ?_)
          refine r_inBlock ?_
          refine r_region' ?_
          refine l_q (q_add rfl rfl (by omega) rfl) ?_
          refine l_q (q_move (v := .int _ _) rfl rfl) ?_
          refine l_nil ?_
          refine r_forget [(6, .slice _ _ _), (25, .slice _ _ _), (26, .int _ _), (27, .int _ _)] ⟨rfl, rfl, rfl, rfl, trivial⟩ (fun e21 => ?_)
          have hst := catL_step (L := L) (k := k) hkl
          exact ih14 (k + 1, a19, c19) _ _ ⟨⟨(congrArg (fun z => Value.slice _ (List.length z) _) hst), rfl, rfl, by first | rfl | exact vint_eq (by omega), trivial⟩, (by omega), (by rw [catL_len hkl]; omega), (hst ▸ ho19), hsz, hB⟩ (by first | omega | (dsimp only; omega))
        · skip
          try simp only [decide_eq_true_eq, decide_eq_false_iff_not, Bool.not_eq_true', Bool.not_eq_false', Bool.not_not, Bool.not_true, Bool.not_false, Bool.not_eq_true, Bool.not_eq_false, Int.not_lt, Int.not_le, Bool.and_eq_true, Bool.or_eq_true, Bool.and_eq_false_iff, Bool.or_eq_false_iff] at hc15
          refine r_exit rfl ?_
          refine r_seq ?_
          refine r_region' ?_
          refine l_q (q_move (v := .slice _ _ _) rfl rfl) ?_
          refine l_q (q_assign (v := .slice _ _ _) rfl rfl) ?_
          refine l_nil ?_
          refine r_forget [(2, .slice _ _ _)] ⟨rfl, trivial⟩ (fun e22 => ?_)
          refine r_ret_ (vs := [.slice _ _ _]) rfl Try.func69 rfl (.nil _) ⟨rfl, trivial⟩ ?_
          have hst : catL (L.take k) = catL L := by rw [List.take_of_length_le (by omega)]
          exact ⟨_, _, (congrArg (fun z => Value.slice _ (List.length z) _) hst), (hst ▸ ho), Ext.of_below hB⟩
end Go.Proofs.Ytkcbgpilfegofaa
