/- Contracts. -/
import Derived.Test.YtbikicakdkbcgacGreatF12
set_option linter.unusedVariables false
set_option linter.unusedSimpArgs false
namespace Go.Proofs.YtbikicakdkbcgacGreat
open Go Go.RowKit Go.Gv Go.Fl

end Go.Proofs.YtbikicakdkbcgacGreat
