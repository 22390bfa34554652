/- Contracts. -/
import Derived.Test.YtgdanglidienmaaF1
set_option linter.unusedVariables false
set_option linter.unusedSimpArgs false
namespace Go.Proofs.Ytgdanglidienmaa
open Go Go.RowKit Go.Gv Go.Fl

theorem any_eq_contains (xs : List (List UInt8)) (s : List UInt8) : xs.any (fun x => decide (s = x)) = xs.contains s := by
  rw [Bool.eq_iff_iff, List.any_eq_true, List.contains_iff_mem]
  simp



end Go.Proofs.Ytgdanglidienmaa
