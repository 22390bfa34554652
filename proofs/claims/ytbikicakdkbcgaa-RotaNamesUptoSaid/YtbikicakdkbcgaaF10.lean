/- Contracts. -/
import Derived.Test.YtbikicakdkbcgaaF9
import Derived.Test.YtbikicakdkbcgaaGvB
set_option linter.unusedVariables false
set_option linter.unusedSimpArgs false
namespace Go.Proofs.Ytbikicakdkbcgaa
open Go Go.RowKit Go.Gv Go.Fl

end Go.Proofs.Ytbikicakdkbcgaa
