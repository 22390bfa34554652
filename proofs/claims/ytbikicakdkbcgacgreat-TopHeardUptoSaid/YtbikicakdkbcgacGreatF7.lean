/- Contracts. -/
import Derived.Test.YtbikicakdkbcgacGreatF6
set_option linter.unusedVariables false
set_option linter.unusedSimpArgs false
namespace Go.Proofs.YtbikicakdkbcgacGreat
open Go Go.RowKit Go.Gv Go.Fl

def part (t : List Int) (f m : Nat) : List Int := (t.drop f).take m
theorem part_le {t : List Int} {f m : Nat} (h : m ≤ 9) : (part t f m).length ≤ 9 := by rw [part, List.length_take]; omega
def decidesB (T : List (List Int)) (f m : Nat) : Bool := decide ((T.map fun t => part t f m).Nodup)
theorem nodup_iff {L : List SV} {f m : Nat} : decidesB (L.map (·.xs)) f m = true ↔ ∀ i, i < L.length → ∀ j, j < i → part (L.getD i sv0).xs f m ≠ part (L.getD j sv0).xs f m := by
  unfold decidesB
  rw [decide_eq_true_eq, List.Nodup, List.pairwise_iff_getElem]
  have hg : ∀ i (hi : i < L.length), L.getD i sv0 = L[i] := fun i hi => by rw [List.getD_eq_getElem?_getD, List.getElem?_eq_getElem hi]; rfl
  constructor
  · intro h i hi j hj
    have := h j i (by simp; omega) (by simpa using hi) hj
    rw [hg i hi, hg j (by omega)]
    intro he
    apply this
    simp only [List.getElem_map]
    exact he.symm
  · intro h i j hi hj hij
    have hi' : i < L.length := by simpa using hi
    have hj' : j < L.length := by simpa using hj
    have := h j hj' i hij
    rw [hg i hi', hg j hj'] at this
    simp only [List.getElem_map]
    exact fun he => this he.symm
end Go.Proofs.YtbikicakdkbcgacGreat
