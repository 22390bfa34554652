/- Contracts. -/
import Derived.Test.YtbikicakdkbcgabGreatR13
import Derived.Test.YtbikicakdkbcgabGreatRP
set_option linter.unusedVariables false
set_option linter.unusedSimpArgs false
namespace Go.Proofs.YtbikicakdkbcgabGreat
open Go Go.RowKit Go.Gv Go.Fl

section
variable {fl : Int} {G : List RG} {l : List Int}
end
end Go.Proofs.YtbikicakdkbcgabGreat
set_option linter.unusedVariables false
set_option linter.unusedSimpArgs false
namespace Go.Proofs.YtbikicakdkbcgabGreat
open Go Go.RowKit Go.Gv Go.Fl

/- ---- mirrors ---- -/
/- ---- the best polishing ---- -/
/- ---- numbers as lists of bits ---- -/
end Go.Proofs.YtbikicakdkbcgabGreat
