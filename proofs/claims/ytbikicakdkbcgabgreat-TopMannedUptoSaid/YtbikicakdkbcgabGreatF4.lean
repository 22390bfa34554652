/- Contracts. -/
import Derived.Test.YtbikicakdkbcgabGreatF3
set_option linter.unusedVariables false
set_option linter.unusedSimpArgs false
namespace Go.Proofs.YtbikicakdkbcgabGreat
open Go Go.RowKit Go.Gv Go.Fl

theorem all_getD {α : Type} {l : List α} {d : α} {p : α → Bool} (h : ∀ j, j < l.length → p (l.getD j d) = true) : l.all p = true := by
  rw [List.all_eq_true]
  intro x hx
  obtain ⟨i, hi, rfl⟩ := List.mem_iff_getElem.1 hx
  have := h i hi
  rwa [List.getD_eq_getElem?_getD, List.getElem?_eq_getElem hi] at this
theorem all_bad {α : Type} {l : List α} {d : α} {p : α → Bool} {k : Nat} (hk : k < l.length) (h : p (l.getD k d) = false) : l.all p = false := by
  rw [List.all_eq_false]
  exact ⟨_, getD_lt hk, by rw [h]; exact Bool.false_ne_true⟩
end Go.Proofs.YtbikicakdkbcgabGreat
