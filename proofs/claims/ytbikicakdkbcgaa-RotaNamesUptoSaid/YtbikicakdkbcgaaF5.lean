/- Contracts. -/
import Derived.Test.YtbikicakdkbcgaaF4
import Derived.Test.YtbikicakdkbcgaaGvA
set_option linter.unusedVariables false
set_option linter.unusedSimpArgs false
namespace Go.Proofs.Ytbikicakdkbcgaa
open Go Go.RowKit Go.Gv Go.Fl

theorem drop_getD {α : Type} {l : List α} {d : α} {k : Nat} (h : k < l.length) : l.drop k = l.getD k d :: l.drop (k + 1) := by
  rw [List.drop_eq_getElem_cons h, List.getD_eq_getElem?_getD, List.getElem?_eq_getElem h]; rfl
theorem sv_maps {L M : List SV} : L.map (·.xs) = M.map (·.xs) ↔ L.length = M.length ∧ ∀ j, j < L.length → (L.getD j sv0).xs = (M.getD j sv0).xs := by
  constructor
  · intro h
    have hl : L.length = M.length := by simpa using congrArg List.length h
    refine ⟨hl, fun j hj => ?_⟩
    have := congrArg (fun l => l[j]?) h
    simp only [List.getElem?_map, List.getElem?_eq_getElem hj, List.getElem?_eq_getElem (hl ▸ hj), Option.map_some, Option.some.injEq] at this
    simpa [List.getD_eq_getElem?_getD, List.getElem?_eq_getElem hj, List.getElem?_eq_getElem (hl ▸ hj)] using this
  · rintro ⟨hl, h⟩
    apply List.ext_getElem (by simpa using hl)
    intro i h1 h2
    have h1 : i < L.length := by simpa using h1
    have h2 : i < M.length := by simpa using h2
    have := h i h1
    simpa [List.getD_eq_getElem?_getD, List.getElem?_eq_getElem h1, List.getElem?_eq_getElem h2] using this
end Go.Proofs.Ytbikicakdkbcgaa
