/- Contracts. -/
import Derived.Test.YtbikicakdkbcgaaF3
set_option linter.unusedVariables false
set_option linter.unusedSimpArgs false
namespace Go.Proofs.Ytbikicakdkbcgaa
open Go Go.RowKit Go.Gv Go.Fl

end Go.Proofs.Ytbikicakdkbcgaa
