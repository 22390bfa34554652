/- Contracts. -/
import Derived.Test.YtbikicakdkbcgabGreatF8
import Derived.Test.YtbikicakdkbcgabGreatGvB
set_option linter.unusedVariables false
set_option linter.unusedSimpArgs false
namespace Go.Proofs.YtbikicakdkbcgabGreat
open Go Go.RowKit Go.Gv Go.Fl

end Go.Proofs.YtbikicakdkbcgabGreat
set_option linter.unusedVariables false
set_option linter.unusedSimpArgs false
namespace Go.Proofs.YtbikicakdkbcgabGreat
open Go Go.RowKit Go.Gv Go.Fl

end Go.Proofs.YtbikicakdkbcgabGreat
