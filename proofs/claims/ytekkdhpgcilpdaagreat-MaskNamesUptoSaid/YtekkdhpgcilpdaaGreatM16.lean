/- Contracts. -/
import Derived.Test.YtekkdhpgcilpdaaGreatM12
set_option linter.unusedVariables false
set_option linter.unusedSimpArgs false
namespace Go.Proofs.YtekkdhpgcilpdaaGreat
open Go Go.RowKit Go.Gv Go.Fl
section
variable {co : List Sg} {er : Int} {se : List Int} {sl sl2 : List SN} {rl : List RC} {l : Lg} {n : Int}
end



end Go.Proofs.YtekkdhpgcilpdaaGreat
set_option linter.unusedVariables false
set_option linter.unusedSimpArgs false
namespace Go.Proofs.YtekkdhpgcilpdaaGreat
open Go Go.RowKit Go.Gv Go.Fl
section
variable {l : Lg} {r : Nat}
end
end Go.Proofs.YtekkdhpgcilpdaaGreat
set_option linter.unusedVariables false
set_option linter.unusedSimpArgs false
namespace Go.Proofs.YtekkdhpgcilpdaaGreat
open Go Go.RowKit Go.Gv Go.Fl
def wr (n : Int) : Int := IntKind.i64.wrap n
section
variable {co : List Sg} {er er2 : Int} {se : List Int} {sl : List SN} {rl : List RC} {k : Nat} {b : Int} {r : RC}
end


end Go.Proofs.YtekkdhpgcilpdaaGreat
