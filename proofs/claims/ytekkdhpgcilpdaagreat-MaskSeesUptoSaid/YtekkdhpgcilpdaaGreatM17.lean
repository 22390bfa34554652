/- Contracts. -/
import Derived.Test.YtekkdhpgcilpdaaGreatM16
set_option linter.unusedVariables false
set_option linter.unusedSimpArgs false
namespace Go.Proofs.YtekkdhpgcilpdaaGreat
open Go Go.RowKit Go.Gv Go.Fl

section
variable {can can' : Nat → Int → Bool} {m k : Nat} {out out' : Nat → Bool} {a : List Int}
end
section
variable {l x : Lg} {more : RC} {r : Nat} {b : Int}
end
section
variable {l x : Lg}
end



end Go.Proofs.YtekkdhpgcilpdaaGreat
