/- Contracts. -/
import Derived.Test.YtekkdhpgcilpdaaGreatM20
set_option linter.unusedVariables false
set_option linter.unusedSimpArgs false
namespace Go.Proofs.YtekkdhpgcilpdaaGreat
open Go Go.RowKit Go.Gv Go.Fl
/-! ### Earlier seen: the walk's facts -/
section
variable {co : List Sg} {er : Int} {se X SE : List Int} {sl : List SN} {rl : List RC} {kn : Nat} {zb b b2 : Int} {D E : List SV}
end
end Go.Proofs.YtekkdhpgcilpdaaGreat
