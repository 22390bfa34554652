/- Contracts. -/
import Derived.Test.YtekkdhpgcilpdaaGreatM12
import Derived.Test.YtekkdhpgcilpdaaGreatF21
import Derived.Test.YtekkdhpgcilpdaaGreatM22
set_option linter.unusedVariables false
set_option linter.unusedSimpArgs false
namespace Go.Proofs.YtekkdhpgcilpdaaGreat
open Go Go.RowKit Go.Gv Go.Fl
end Go.Proofs.YtekkdhpgcilpdaaGreat
set_option linter.unusedVariables false
set_option linter.unusedSimpArgs false
namespace Go.Proofs.YtekkdhpgcilpdaaGreat
open Go Go.RowKit Go.Gv Go.Fl
/-! ### The reference: texts put in order -/
section
variable {t x : List Int} {l A : List (List Int)} {k : Nat} {p : Bool}
end
section
variable {co : List Sg} {er : Int} {se : List Int} {sl : List SN} {rl : List RC} {b : Int} {n i f : Nat} {l : Lg}
end
section
variable {l : Lg} {r : RC} {k : Nat} {D : List SV} {n : Nat}
end
section
variable {l : Lg} {b m : Int}
end
end Go.Proofs.YtekkdhpgcilpdaaGreat
