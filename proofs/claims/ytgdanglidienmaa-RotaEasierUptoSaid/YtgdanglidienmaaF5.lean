/- Contracts. -/
import Derived.Test.YtgdanglidienmaaF4
import Derived.Test.YtgdanglidienmaaGvA
set_option linter.unusedVariables false
set_option linter.unusedSimpArgs false
namespace Go.Proofs.Ytgdanglidienmaa
open Go Go.RowKit Go.Gv Go.Fl

def lexLt : List Int → List Int → Bool
  | [], ys => !ys.isEmpty
  | _ :: _, [] => false
  | x :: xs, y :: ys => if x = y then lexLt xs ys else decide (x < y)
theorem drop_getD {α : Type} {l : List α} {d : α} {k : Nat} (h : k < l.length) : l.drop k = l.getD k d :: l.drop (k + 1) := by
  rw [List.drop_eq_getElem_cons h, List.getD_eq_getElem?_getD, List.getElem?_eq_getElem h]; rfl
theorem lexLt_step {xs ys : List Int} {k : Nat} (h1 : k < xs.length) (h2 : k < ys.length) (h : xs.getD k 0 = ys.getD k 0) : lexLt (xs.drop k) (ys.drop k) = lexLt (xs.drop (k + 1)) (ys.drop (k + 1)) := by
  rw [drop_getD (d := 0) h1, drop_getD (d := 0) h2, lexLt, if_pos h]
theorem lexLt_diff {xs ys : List Int} {k : Nat} (h1 : k < xs.length) (h2 : k < ys.length) (h : ¬ xs.getD k 0 = ys.getD k 0) : lexLt (xs.drop k) (ys.drop k) = decide (xs.getD k 0 < ys.getD k 0) := by
  rw [drop_getD (d := 0) h1, drop_getD (d := 0) h2, lexLt, if_neg h]
theorem lexLt_end {xs ys : List Int} {k : Nat} (h : (k ≤ xs.length ∧ k ≤ ys.length) ∧ (k = xs.length ∨ k = ys.length)) : lexLt (xs.drop k) (ys.drop k) = decide ((xs.length : Int) < ys.length) := by
  by_cases h1 : k = xs.length
  · rw [List.drop_eq_nil_of_le (show xs.length ≤ k by omega), lexLt]
    by_cases h2 : k = ys.length
    · rw [List.drop_eq_nil_of_le (show ys.length ≤ k by omega)]; symm; simp; omega
    · rw [drop_getD (d := 0) (l := ys) (by omega)]; symm; simp; omega
  · rw [drop_getD (d := 0) (l := xs) (by omega), List.drop_eq_nil_of_le (show ys.length ≤ k by omega), lexLt]; symm; simp; omega
theorem sv_contains (L : List SV) (ys : List Int) : (L.map (·.xs)).contains ys = L.any (fun s => decide (s.xs = ys)) := by
  rw [Bool.eq_iff_iff, List.any_eq_true, List.contains_iff_mem, List.mem_map]
  simp
theorem sv_maps {L M : List SV} : L.map (·.xs) = M.map (·.xs) ↔ L.length = M.length ∧ ∀ j, j < L.length → (L.getD j sv0).xs = (M.getD j sv0).xs := by
  constructor
  · intro h
    have hl : L.length = M.length := by simpa using congrArg List.length h
    refine ⟨hl, fun j hj => ?_⟩
    have := congrArg (fun l => l[j]?) h
    simp only [List.getElem?_map, List.getElem?_eq_getElem hj, List.getElem?_eq_getElem (hl ▸ hj), Option.map_some, Option.some.injEq] at this
    simpa [List.getD_eq_getElem?_getD, List.getElem?_eq_getElem hj, List.getElem?_eq_getElem (hl ▸ hj)] using this
  · rintro ⟨hl, h⟩
    apply List.ext_getElem (by simpa using hl)
    intro i h1 h2
    have h1 : i < L.length := by simpa using h1
    have h2 : i < M.length := by simpa using h2
    have := h i h1
    simpa [List.getD_eq_getElem?_getD, List.getElem?_eq_getElem h1, List.getElem?_eq_getElem h2] using this
theorem rev_step {s : Sg} {k : Nat} (h : k < s.length) : (s.take (k + 1)).drop k ++ (s.take k).reverse = (s.take (k + 1)).reverse := by
  rw [List.take_add_one, List.getElem?_eq_getElem h, Option.toList_some, List.reverse_append, List.drop_append, List.drop_eq_nil_of_le (by rw [List.length_take]; omega)]
  have : k - (s.take k).length = 0 := by rw [List.length_take]; omega
  rw [this]; simp
def shortL (l : List (List Int)) : Bool := decide (l.length ≤ 70) && l.all (fun t => decide (t.length ≤ 9))
theorem short_bad {L : List SV} {k : Nat} (hk : k < L.length) (_h7 : k ≤ 71) (h : 9 < (L.getD k sv0).xs.length) : shortL (L.map (·.xs)) = false := by
  unfold shortL
  rw [Bool.and_eq_false_iff]; right
  rw [List.all_eq_false]
  exact ⟨(L.getD k sv0).xs, List.mem_map.2 ⟨_, getD_lt hk, rfl⟩, by simp only [decide_eq_true_eq]; omega⟩
theorem short_end {L : List SV} {k : Nat} (hk : k ≤ L.length) (h7 : k = L.length ∨ k = 71) (h : ∀ j, j < k → (L.getD j sv0).xs.length ≤ 9) : shortL (L.map (·.xs)) = decide ((L.length : Int) ≤ 70) := by
  unfold shortL
  by_cases h70 : L.length ≤ 70
  · have : k = L.length := by omega
    subst this
    rw [List.all_map, all_getD (d := sv0) (l := L) (p := (fun t => decide (t.length ≤ 9)) ∘ (·.xs)) (fun j hj => by simpa using h j hj)]
    rw [List.length_map, Bool.and_true, decide_eq_true h70, decide_eq_true (by omega)]
  · simp [h70]; omega



end Go.Proofs.Ytgdanglidienmaa
