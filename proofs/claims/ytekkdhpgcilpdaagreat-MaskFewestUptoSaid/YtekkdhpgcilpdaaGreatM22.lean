/- Contracts. -/
import Derived.Test.YtekkdhpgcilpdaaGreatM20
set_option linter.unusedVariables false
set_option linter.unusedSimpArgs false
namespace Go.Proofs.YtekkdhpgcilpdaaGreat
open Go Go.RowKit Go.Gv Go.Fl
/-! ### Earlier seen: the walk's facts -/
section
variable {co : List Sg} {er : Int} {se X SE : List Int} {sl : List SN} {rl : List RC} {kn : Nat} {zb b b2 : Int} {D E : List SV}
theorem tx_two (hok : faultM (lg co er se sl rl) = 0) (hD : D.map (·.xs) = textsL (lg co er se sl rl) b) : D.length ≤ 200 ∧ ∀ s ∈ D, s.xs.length ≤ 2097152 := by
  obtain ⟨_, hj8, _, _, _, _, hJn, _⟩ := lg_ok hok
  refine ⟨tx_len hJn hj8 hD, fun s hs => ?_⟩
  obtain ⟨j, hj, rfl⟩ := List.mem_iff_getElem.1 hs
  have h := (tx_ok hJn hD hj).2.1
  rw [List.getD_eq_getElem?_getD, List.getElem?_eq_getElem hj] at h
  exact Nat.le_trans h (by decide)
end
end Go.Proofs.YtekkdhpgcilpdaaGreat
set_option linter.unusedVariables false
set_option linter.unusedSimpArgs false
namespace Go.Proofs.YtekkdhpgcilpdaaGreat
open Go Go.RowKit Go.Gv Go.Fl
/-! ### Parts of wide rows; other orders -/
section
variable {co : List Sg} {er : Int} {se : List Int} {sl : List SN} {rl : List RC} {i k c : Nat} {w : World} {l : Lg}
end



end Go.Proofs.YtekkdhpgcilpdaaGreat
