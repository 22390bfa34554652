/- Contracts. -/
import Derived.Test.YtekkdhpgcilpdaaGreatM19
set_option linter.unusedVariables false
set_option linter.unusedSimpArgs false
namespace Go.Proofs.YtekkdhpgcilpdaaGreat
open Go Go.RowKit Go.Gv Go.Fl
/-! ### Earlier seen, later asked, never seen -/
section
variable {l x : Lg} {b b2 : Int} {r : RC} {k : Nat}
end
/-! ### Other orders -/
section
variable {l : Lg} {i r : Nat} {fal : Bool}
end
/-! ### Parts -/
/-! ### Lists in lists -/
section
variable {t : List Int} {a b : List (List Int)} {k i : Nat} {L M : List SV}
end
section
variable {co : List Sg} {er : Int} {se : List Int} {sl : List SN} {rl : List RC} {hr : Int} {t : List Int} {k : Nat} {D : List SV}
end


end Go.Proofs.YtekkdhpgcilpdaaGreat
