/- Contracts. -/
import Derived.Test.YtekkdhpgcilpdaaGreatM14
set_option linter.unusedVariables false
set_option linter.unusedSimpArgs false
namespace Go.Proofs.YtekkdhpgcilpdaaGreat
open Go Go.RowKit Go.Gv Go.Fl
section
variable {l : Lg} {r : Nat}
end
end Go.Proofs.YtekkdhpgcilpdaaGreat
