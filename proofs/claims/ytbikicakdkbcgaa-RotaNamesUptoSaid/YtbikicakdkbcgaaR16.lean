/- Contracts. -/
import Derived.Test.YtbikicakdkbcgaaRP
set_option linter.unusedVariables false
set_option linter.unusedSimpArgs false
namespace Go.Proofs.Ytbikicakdkbcgaa
open Go Go.RowKit Go.Gv Go.Fl

section
variable {x : PV} {i a b : Nat} {R : List SV}
end
section
variable {nd : List Int} {R L : List SV} {c k : Nat}
end
section
variable {R Q : List SV} {k : Nat}
end



end Go.Proofs.Ytbikicakdkbcgaa
