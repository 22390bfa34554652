/- Contracts. -/
import Derived.Test.YtbikicakdkbcgabGreatR20
import Derived.Test.YtbikicakdkbcgabGreatRQ
set_option linter.unusedVariables false
set_option linter.unusedSimpArgs false
namespace Go.Proofs.YtbikicakdkbcgabGreat
open Go Go.RowKit Go.Gv Go.Fl
theorem rows_small {R : List SV} {T : List (List Int)} (h : R.map (·.xs) = T) (hT : T.length ≤ 2097152 ∧ ∀ t ∈ T, t.length ≤ 2097152) : R.length ≤ 2097152 ∧ ∀ s ∈ R, s.xs.length ≤ 2097152 := by
  subst h
  rw [List.length_map] at hT
  exact ⟨hT.1, fun s hs => hT.2 _ (List.mem_map.2 ⟨s, hs, rfl⟩)⟩

section
variable {nd : List Int} {pl : List PV} {L R : List SV} {T : List (List Int)}
theorem plan_IsR (h : planP (po nd pl L) T = 0) : faultP (po nd pl L) = 0 ∧ IsR nd pl.length T := by
  rw [plan_isRB] at h
  split at h
  · rename_i h1; exact absurd h h1
  · rename_i h1
    split at h
    · rename_i h2; exact ⟨by simpa using h1, isRB_iff.1 h2⟩
    · cases h
theorem plan_zero (h : faultP (po nd pl L) = 0) (hT : IsR nd pl.length T) : planP (po nd pl L) T = 0 := by
  rw [plan_isRB, if_neg (by simpa using h), if_pos (isRB_iff.2 hT)]
theorem plan_on (h : planP (po nd pl L) (R.map (·.xs)) = 0) : ∀ s ∈ R, ∀ i ∈ s.xs, 0 ≤ i ∧ i ≤ (pl.length : Int) - 1 := fun s hs i hi => by
  obtain ⟨_, hI⟩ := plan_IsR h
  exact (ris_iff.1 (hI.2 s.xs (List.mem_map.2 ⟨s, hs, rfl⟩))).2 i hi
end



end Go.Proofs.YtbikicakdkbcgabGreat
