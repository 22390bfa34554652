/- Contracts. -/
import Derived.Test.YtekkdhpgcilpdaaGreatM12
import Derived.Test.YtekkdhpgcilpdaaGreatGvO
import Derived.Test.YtekkdhpgcilpdaaGreatBulk
import Derived.Test.YtekkdhpgcilpdaaGreatRows
set_option linter.unusedVariables false
set_option linter.unusedSimpArgs false
namespace Go.Proofs.YtekkdhpgcilpdaaGreat
open Go Go.RowKit Go.Gv Go.Fl
section
variable {H : Type} {enc : TypeId × Value → H} {w : World}
end



end Go.Proofs.YtekkdhpgcilpdaaGreat
