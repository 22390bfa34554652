/- Contracts. -/
import Derived.Test.YtekkdhpgcilpdaaGreatM23
set_option linter.unusedVariables false
set_option linter.unusedSimpArgs false
namespace Go.Proofs.YtekkdhpgcilpdaaGreat
open Go Go.RowKit Go.Gv Go.Fl
/-! ### The reference: assignments -/
section
variable {can : Nat → Int → Bool} {m : Nat} {out : Nat → Bool}
end
section
variable {l : Lg} {k c : Nat} {p : List Int} {out : Nat → Bool} {b : Int} {r : RC}
end
section
variable {co : List Sg} {er : Int} {se : List Int} {sl : List SN} {rl : List RC} {l : Lg} {xs : List Int} {k n ot i r : Nat} {A M D : List SV} {out : Nat → Bool}
end


end Go.Proofs.YtekkdhpgcilpdaaGreat
