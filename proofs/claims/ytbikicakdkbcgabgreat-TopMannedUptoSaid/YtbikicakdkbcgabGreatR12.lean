/- Contracts. -/
import Derived.Test.YtbikicakdkbcgabGreatR4
set_option linter.unusedVariables false
set_option linter.unusedSimpArgs false
namespace Go.Proofs.YtbikicakdkbcgabGreat
open Go Go.RowKit Go.Gv Go.Fl

section
variable {fl : Int} {G : List RG}
end
section
variable {pk : RG → Int} {xs : List Int} {G : List RG} {k : Nat}
end



end Go.Proofs.YtbikicakdkbcgabGreat
set_option linter.unusedVariables false
set_option linter.unusedSimpArgs false
namespace Go.Proofs.YtbikicakdkbcgabGreat
open Go Go.RowKit Go.Gv Go.Fl

section
variable {fl : Int} {xs : List Int} {G : List RG} {k : Nat}
end



end Go.Proofs.YtbikicakdkbcgabGreat
