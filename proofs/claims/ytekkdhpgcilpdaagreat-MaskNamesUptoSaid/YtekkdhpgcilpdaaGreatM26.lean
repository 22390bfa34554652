/- Contracts. -/
import Derived.Test.YtekkdhpgcilpdaaGreatM24
import Derived.Test.YtekkdhpgcilpdaaGreatE1
import Derived.Test.YtekkdhpgcilpdaaGreatGvB
set_option linter.unusedVariables false
set_option linter.unusedSimpArgs false
namespace Go.Proofs.YtekkdhpgcilpdaaGreat
open Go Go.RowKit Go.Gv Go.Fl
end Go.Proofs.YtekkdhpgcilpdaaGreat
set_option linter.unusedVariables false
set_option linter.unusedSimpArgs false
namespace Go.Proofs.YtekkdhpgcilpdaaGreat
open Go Go.RowKit Go.Gv Go.Fl

end Go.Proofs.YtekkdhpgcilpdaaGreat
set_option linter.unusedVariables false
set_option linter.unusedSimpArgs false
namespace Go.Proofs.YtekkdhpgcilpdaaGreat
open Go Go.RowKit Go.Gv Go.Fl
/-! ### Records that truly came -/
section
variable {l : Lg} {N : List RC} {Y : List Int} {r : RC} {b : Int}
end
section
variable {co : List Sg} {er : Int} {se : List Int} {sl : List SN} {rl N : List RC} {Y tx : List Int} {s0 : SN} {jn : Nat} {fb hh n : Int} {out : Sg} {ys : List Int}
end

end Go.Proofs.YtekkdhpgcilpdaaGreat
