/- Contracts. -/
import Derived.Test.YtekkdhpgcilpdaaGreatF12
set_option linter.unusedVariables false
set_option linter.unusedSimpArgs false
namespace Go.Proofs.YtekkdhpgcilpdaaGreat
open Go Go.RowKit Go.Gv Go.Fl

end Go.Proofs.YtekkdhpgcilpdaaGreat
