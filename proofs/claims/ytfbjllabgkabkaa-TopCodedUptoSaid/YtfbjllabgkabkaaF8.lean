/- Contracts. -/
import Derived.Test.YtfbjllabgkabkaaF7
set_option linter.unusedVariables false
set_option linter.unusedSimpArgs false
namespace Go.Proofs.Ytfbjllabgkabkaa
open Go Go.RowKit Go.Gv Go.Fl

def minOf (xs : List Int) : Int := xs.foldl min (xs.getD 0 0)
theorem min_one {xs : List Int} (h : 0 < xs.length) : (xs.take 1).foldl min (xs.getD 0 0) = xs.getD 0 0 := by
  cases xs with
  | nil => cases h
  | cons x l => show min x x = x; omega
theorem min_step {xs : List Int} {k : Nat} (h : k < xs.length) : min ((xs.take k).foldl min (xs.getD 0 0)) (xs.getD k 0) = (xs.take (k + 1)).foldl min (xs.getD 0 0) := by
  rw [take_succ_getD h, List.foldl_append]; rfl
theorem min_two (x y : Int) : minOf [x, y] = min x y := by show min (min x x) y = min x y; omega
def rep (T : List (List Int)) (F : Nat) : Nat × Nat := let i := (idxI (fun i => decidesB T (i % F) (i / F)) (6 * F)).toNat; (i % F, i / F)
theorem rep6 {T : List (List Int)} {m f : Nat} (hm : m < 6) (hf : f < 6) (h : decidesB T f m = true) (hno : ∀ i, i < m * 6 + f → decidesB T (i % 6) (i / 6) = false) : rep T 6 = (f, m) := by
  unfold rep
  have h1 : (m * 6 + f) % 6 = f := by omega
  have h2 : (m * 6 + f) / 6 = m := by omega
  rw [idxI_found (k := m * 6 + f) (by omega) (by rw [h1, h2]; exact h) hno]
  simp only [Int.toNat_natCast, h1, h2]
theorem rep5 {T : List (List Int)} {m f : Nat} (hm : m < 6) (hf : f < 5) (h : decidesB T f m = true) (hno : ∀ i, i < m * 5 + f → decidesB T (i % 5) (i / 5) = false) : rep T 5 = (f, m) := by
  unfold rep
  have h1 : (m * 5 + f) % 5 = f := by omega
  have h2 : (m * 5 + f) / 5 = m := by omega
  rw [idxI_found (k := m * 5 + f) (by omega) (by rw [h1, h2]; exact h) hno]
  simp only [Int.toNat_natCast, h1, h2]
theorem fpart_eq (xs : List Int) (f m : Nat) : ((xs.take (minOf [minOf [(f : Int), (xs.length : Int)] + (m : Int), (xs.length : Int)]).toNat).drop (minOf [(f : Int), (xs.length : Int)]).toNat) = part xs f m := by
  rw [min_two, min_two, part]
  rcases Nat.lt_or_ge xs.length f with h | h
  · rw [List.drop_eq_nil_of_le (by rw [List.length_take]; omega), List.drop_eq_nil_of_le (by omega), List.take_nil]
  · rw [show (min (f : Int) xs.length).toNat = f by omega, List.drop_take, show (min (min (f : Int) xs.length + (m : Int)) xs.length).toNat - f = min m (xs.length - f) by omega]
    rcases Nat.le_total m (xs.length - f) with h2 | h2
    · rw [Nat.min_eq_left h2]
    · rw [Nat.min_eq_right h2, List.take_of_length_le (by rw [List.length_drop]; omega), List.take_of_length_le (by rw [List.length_drop]; omega)]
theorem getD_take {α : Type} {l : List α} {d : α} {i j : Nat} (h : j < i) : (l.take i).getD j d = l.getD j d := by
  rw [List.getD_eq_getElem?_getD, List.getD_eq_getElem?_getD, List.getElem?_take, if_pos h]
def catL (L : List SV) : List Int := (L.map (·.xs)).flatten
theorem catL_step {L : List SV} {k : Nat} (h : k < L.length) : catL (L.take k) ++ (L.getD k sv0).xs = catL (L.take (k + 1)) := by
  rw [List.take_add_one, List.getElem?_eq_getElem h, List.getD_eq_getElem?_getD, List.getElem?_eq_getElem h]
  simp only [catL, Option.toList_some, Option.getD_some, List.map_append, List.map_cons, List.map_nil, List.flatten_append, List.flatten_cons, List.flatten_nil, List.append_nil]
theorem catL_len {L : List SV} {k : Nat} (h : k < L.length) : (catL (L.take (k + 1))).length = (catL (L.take k)).length + (L.getD k sv0).xs.length := by
  rw [← catL_step h, List.length_append]
theorem made_hi (b c : Nat) : Value.slice (if c = (0 : Int).toNat then some ⟨b, 0, none⟩ else (some ⟨b, 0, none⟩ : Option Addr).map (·.add ((0 : Int).toNat * 1))) ((0 : Int).toNat - (0 : Int).toNat) (c - (0 : Int).toNat) = .slice (some ⟨b, 0, none⟩) 0 c := by
  simp [Addr.add]


theorem min_ret (xa : Option Addr) (xc : Nat) (xs : List Int) (w : World) (hx : Row w xa xs.length xc 1 (xs.map vint)) (hxn : xs.length ≤ 2097152) (h0 : 0 < xs.length) : Ret Try.prog 82 [.slice xa xs.length xc] w (fun v w' => v = vint (minOf xs) ∧ Ext w w') := by
  have hB := Below.refl w.heap.size w
  have hsz : w.heap.size ≤ w.heap.size := Nat.le_refl _
  refine ret_of_runs (args := [_]) Try.func82 rfl (Nat.le_of_ble_eq_true rfl) (by kernel_rfl) ?_
  refine r_seq ?_
  refine r_region' ?_
  refine l_q (q_assign (v := .int _ _) rfl rfl) ?_
  refine l_nil ?_
  refine r_forget [(0, .slice _ _ _)] ⟨rfl, trivial⟩ (fun e1 => ?_)
  refine r_seq ?_
  refine r_seq ?_
  refine r_region' ?_
  refine l_q (q_move (v := .slice _ _ _) rfl rfl) ?_
  refine l_q (q_len rfl Try.underlying26 rfl rfl) ?_
  refine l_q (q_lss rfl rfl rfl) ?_
  refine l_nil ?_
  refine r_forget [(0, .slice _ _ _), (7, .bool _)] ⟨rfl, rfl, trivial⟩ (fun e2 => ?_)
  refine r_cond rfl (fun hc3 => ?_) (fun hc3 => ?_)
  · skip
    try simp only [decide_eq_true_eq, decide_eq_false_iff_not, Bool.not_eq_true', Bool.not_eq_false', Bool.not_not, Bool.not_true, Bool.not_false, Bool.not_eq_true, Bool.not_eq_false, Int.not_lt, Int.not_le, Bool.and_eq_true, Bool.or_eq_true, Bool.and_eq_false_iff, Bool.or_eq_false_iff] at hc3
    omega
  · skip
    try simp only [decide_eq_true_eq, decide_eq_false_iff_not, Bool.not_eq_true', Bool.not_eq_false', Bool.not_not, Bool.not_true, Bool.not_false, Bool.not_eq_true, Bool.not_eq_false, Int.not_lt, Int.not_le, Bool.and_eq_true, Bool.or_eq_true, Bool.and_eq_false_iff, Bool.or_eq_false_iff] at hc3
    refine r_skip ?_
    refine r_seq ?_
    refine r_region' ?_
    refine l_q (q_move (v := .slice _ _ _) rfl rfl) ?_
    obtain ⟨b4, o4, ha4, hh4⟩ := (hx.below hB).at1 0 ((xs).getD 0 0) (getD_some (by omega))
    refine l_q (q_indexAddr1 Try.underlying26 Try.sizeOf3 rfl ha4 rfl (by omega) rfl) ?_
    refine l_q (q_load Try.isAgg3 rfl (hh4) rfl) ?_
    refine l_q (q_assign (v := .int _ _) rfl rfl) ?_
    refine l_nil ?_
    refine r_forget [(0, .slice _ _ _), (3, .int _ _)] ⟨rfl, rfl, trivial⟩ (fun e5 => ?_)
    refine r_seq ?_
    refine r_seq ?_
    refine r_region' ?_
    refine l_q (q_assign (v := .int _ _) rfl rfl) ?_
    refine l_nil ?_
    refine r_block ?_
    refine r_rounds (α := Nat × Int) (fun ⟨k, m⟩ e wl => Knows e [(0, .slice xa xs.length xc), (3, vint m), (4, vint (k : Int))] ∧ (k ≤ xs.length) ∧ (m = (xs.take k).foldl min (xs.getD 0 0)) ∧ (w.heap.size ≤ wl.heap.size) ∧ (Below w.heap.size w wl)) (fun ⟨k, m⟩ => xs.length - k) (1, xs.getD 0 0) ?_ ?_
    · skip
      exact ⟨⟨rfl, rfl, rfl, trivial⟩, (by omega), (min_one h0).symm, hsz, hB⟩
    · skip
      rintro ⟨k, m⟩ el6 wl6 ⟨hkn, hkk, hm, hsz, hB⟩ ih6
      obtain ⟨e6, rfl⟩ := knows_env hkn
      refine r_seq ?_
      refine r_seq ?_
      refine r_region' ?_
      refine l_q (q_move (v := .int _ _) rfl rfl) ?_
      refine l_q (q_move (v := .slice _ _ _) rfl rfl) ?_
      refine l_q (q_len rfl Try.underlying26 rfl rfl) ?_
      refine l_q (q_lss rfl rfl rfl) ?_
      refine l_nil ?_
      refine r_forget [(0, .slice _ _ _), (3, .int _ _), (4, .int _ _), (15, .bool _)] ⟨rfl, rfl, rfl, rfl, trivial⟩ (fun e7 => ?_)
      refine r_cond rfl (fun hc8 => ?_) (fun hc8 => ?_)
      · skip
        try simp only [decide_eq_true_eq, decide_eq_false_iff_not, Bool.not_eq_true', Bool.not_eq_false', Bool.not_not, Bool.not_true, Bool.not_false, Bool.not_eq_true, Bool.not_eq_false, Int.not_lt, Int.not_le, Bool.and_eq_true, Bool.or_eq_true, Bool.and_eq_false_iff, Bool.or_eq_false_iff] at hc8
        refine r_skip ?_
        refine r_seq ?_
        refine r_block ?_
        refine r_region' ?_
        refine l_q (q_move (v := .int _ _) rfl rfl) ?_
        refine l_q (q_move (v := .slice _ _ _) rfl rfl) ?_
        refine l_q (q_move (v := .int _ _) rfl rfl) ?_
        obtain ⟨b9, o9, ha9, hh9⟩ := (hx.below hB).at1 k ((xs).getD k 0) (getD_some (by omega))
        refine l_q (q_indexAddr1 Try.underlying26 Try.sizeOf3 rfl ha9 rfl (by omega) rfl) ?_
        refine l_q (q_load Try.isAgg3 rfl (hh9) rfl) ?_
        refine l_q (q_min rfl rfl rfl) ?_
        refine l_q (q_assign (v := .int _ _) rfl rfl) ?_
        refine l_nil ?_
        refine r_forget [(0, .slice _ _ _), (3, .int _ _), (4, .int _ _)] ⟨rfl, rfl, rfl, trivial⟩ (fun e10 => ?_)
        refine r_inBlock ?_
        refine r_region' ?_
        refine l_q (q_move (v := .int _ _) rfl rfl) ?_
        refine l_q (q_add rfl rfl (by omega) rfl) ?_
        refine l_q (q_assign (v := .int _ _) rfl rfl) ?_
        refine l_nil ?_
        refine r_forget [(0, .slice _ _ _), (3, .int _ _), (4, .int _ _)] ⟨rfl, rfl, rfl, trivial⟩ (fun e11 => ?_)
        exact ih6 (k + 1, min m ((xs).getD k 0)) _ _ ⟨⟨rfl, rfl, by first | rfl | exact vint_eq (by omega), trivial⟩, (by omega), (by rw [hm]; exact min_step (by omega)), hsz, hB⟩ (by first | omega | (dsimp only; omega))
      · skip
        try simp only [decide_eq_true_eq, decide_eq_false_iff_not, Bool.not_eq_true', Bool.not_eq_false', Bool.not_not, Bool.not_true, Bool.not_false, Bool.not_eq_true, Bool.not_eq_false, Int.not_lt, Int.not_le, Bool.and_eq_true, Bool.or_eq_true, Bool.and_eq_false_iff, Bool.or_eq_false_iff] at hc8
        refine r_exit rfl ?_
        refine r_seq ?_
        refine r_region' ?_
        refine l_q (q_move (v := .int _ _) rfl rfl) ?_
        refine l_q (q_assign (v := .int _ _) rfl rfl) ?_
        refine l_nil ?_
        refine r_forget [(2, .int _ _)] ⟨rfl, trivial⟩ (fun e12 => ?_)
        refine r_ret_ (vs := [.int _ _]) rfl Try.func82 rfl (.nil _) ⟨rfl, trivial⟩ ?_
        exact ⟨vint_eq (by rw [hm, List.take_of_length_le (by omega)]; rfl), Ext.of_below hB⟩
theorem minimum_ret (xa : Option Addr) (xc : Nat) (xs : List Int) (w : World) (hx : Row w xa xs.length xc 1 (xs.map vint)) (hxn : xs.length ≤ 2097152) (h0 : 0 < xs.length) : Ret Try.prog 77 [.slice xa xs.length xc] w (fun v w' => v = vint (minOf xs) ∧ Ext w w') := by
  have hB := Below.refl w.heap.size w
  have hsz : w.heap.size ≤ w.heap.size := Nat.le_refl _
  refine ret_of_runs (args := [_]) Try.func77 rfl (Nat.le_of_ble_eq_true rfl) (by kernel_rfl) ?_
  refine r_seq ?_
  refine r_region' ?_
  refine l_q (q_assign (v := .int _ _) rfl rfl) ?_
  refine l_nil ?_
  refine r_forget [(0, .slice _ _ _)] ⟨rfl, trivial⟩ (fun e1 => ?_)
  refine r_seq ?_
  refine r_region' ?_
  refine l_q (q_move (v := .slice _ _ _) rfl rfl) ?_
  refine l_o (o_call Try.call82 rfl (min_ret _ _ xs _ (hx.below hB) (by first | omega | simp) (by first | omega | simp)) rfl ?_)
  rintro _ w2 ⟨rfl, hE2⟩
  replace hB := below_ext hB hE2 hsz
  replace hsz := Nat.le_trans hsz hE2.size
  refine l_q (q_assign (v := .int _ _) rfl rfl) ?_
  refine l_nil ?_
  refine r_forget [(2, .int _ _)] ⟨rfl, trivial⟩ (fun e3 => ?_)
  refine r_ret_ (vs := [.int _ _]) rfl Try.func77 rfl (.nil _) ⟨rfl, trivial⟩ ?_
  exact ⟨rfl, Ext.of_below hB⟩
end Go.Proofs.Ytfbjllabgkabkaa
