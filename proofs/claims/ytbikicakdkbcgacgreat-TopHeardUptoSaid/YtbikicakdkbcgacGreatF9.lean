/- Contracts. -/
import Derived.Test.YtbikicakdkbcgacGreatF8
set_option linter.unusedVariables false
set_option linter.unusedSimpArgs false
namespace Go.Proofs.YtbikicakdkbcgacGreat
open Go Go.RowKit Go.Gv Go.Fl

theorem stepR_none {k : Int} {s r : Sg} (h : stepTW k s = none) : stepR k s r = ([], [], false) := by unfold stepR; rw [h]
theorem stepR_no {k : Int} {s r : Sg} {t : Nat} {wr : Sg} (h : stepTW k s = some (t, wr)) (hp : hasPfx r wr = false) : stepR k s r = ([], [], false) := by unfold stepR; rw [h]; simp [hp]
theorem stepR_yes {k : Int} {s r : Sg} {t : Nat} {wr : Sg} (h : stepTW k s = some (t, wr)) (hp : hasPfx r wr = true) : stepR k s r = (s.drop t, r.drop wr.length, true) := by unfold stepR; rw [h]; simp [hp]
theorem cost_le (k : Int) : 0 ≤ cost k ∧ cost k ≤ 1 := by unfold cost; split <;> omega
end Go.Proofs.YtbikicakdkbcgacGreat
