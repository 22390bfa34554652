/- Contracts. -/
import Derived.Test.YtekkdhpgcilpdaaGreatM14
set_option linter.unusedVariables false
set_option linter.unusedSimpArgs false
namespace Go.Proofs.YtekkdhpgcilpdaaGreat
open Go Go.RowKit Go.Gv Go.Fl
section
variable {l : Lg} {r : Nat}
end
end Go.Proofs.YtekkdhpgcilpdaaGreat
set_option linter.unusedVariables false
set_option linter.unusedSimpArgs false
namespace Go.Proofs.YtekkdhpgcilpdaaGreat
open Go Go.RowKit Go.Gv Go.Fl
def wr (n : Int) : Int := IntKind.i64.wrap n
section
variable {co : List Sg} {er er2 : Int} {se : List Int} {sl : List SN} {rl : List RC} {k : Nat} {b : Int} {r : RC}
end


end Go.Proofs.YtekkdhpgcilpdaaGreat
set_option linter.unusedVariables false
set_option linter.unusedSimpArgs false
namespace Go.Proofs.YtekkdhpgcilpdaaGreat
open Go Go.RowKit Go.Gv Go.Fl

section
variable {can can' : Nat → Int → Bool} {m k : Nat} {out out' : Nat → Bool} {a : List Int}
end
section
variable {l x : Lg} {more : RC} {r : Nat} {b : Int}
end
section
variable {l x : Lg}
end



end Go.Proofs.YtekkdhpgcilpdaaGreat
