/- Contracts. -/
import Derived.Test.YtekkdhpgcilpdaaGreatM17
set_option linter.unusedVariables false
set_option linter.unusedSimpArgs false
namespace Go.Proofs.YtekkdhpgcilpdaaGreat
open Go Go.RowKit Go.Gv Go.Fl
section
variable {xs ys : List Int} {k : Nat}
end

end Go.Proofs.YtekkdhpgcilpdaaGreat
