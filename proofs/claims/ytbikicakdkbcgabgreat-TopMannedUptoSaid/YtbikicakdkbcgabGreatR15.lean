/- Contracts. -/
import Derived.Test.YtbikicakdkbcgabGreatR5
set_option linter.unusedVariables false
set_option linter.unusedSimpArgs false
namespace Go.Proofs.YtbikicakdkbcgabGreat
open Go Go.RowKit Go.Gv Go.Fl

def hasI (xs : List Int) (n : Int) : Bool := xs.any (fun x => decide (x = n))
section
variable {xs ys : List Int} {k : Nat}
theorem ltL_dec : ltL xs ys = (decide (xs.length < ys.length) || (decide (xs.length = ys.length) && decide (cmpV xs ys < 0))) := by
  rw [Bool.eq_iff_iff, ltL_iff]
  simp only [Bool.or_eq_true, Bool.and_eq_true, decide_eq_true_eq]
end



end Go.Proofs.YtbikicakdkbcgabGreat
