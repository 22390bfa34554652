/- Contracts. -/
import Derived.Test.YtekkdhpgcilpdaaGreatM16
set_option linter.unusedVariables false
set_option linter.unusedSimpArgs false
namespace Go.Proofs.YtekkdhpgcilpdaaGreat
open Go Go.RowKit Go.Gv Go.Fl

section
variable {can can' : Nat → Int → Bool} {m k : Nat} {out out' : Nat → Bool} {a : List Int}
end
section
variable {l x : Lg} {more : RC} {r : Nat} {b : Int}
end
section
variable {l x : Lg}
end



end Go.Proofs.YtekkdhpgcilpdaaGreat
set_option linter.unusedVariables false
set_option linter.unusedSimpArgs false
namespace Go.Proofs.YtekkdhpgcilpdaaGreat
open Go Go.RowKit Go.Gv Go.Fl
section
variable {xs ys : List Int} {k : Nat}
end

end Go.Proofs.YtekkdhpgcilpdaaGreat
set_option linter.unusedVariables false
set_option linter.unusedSimpArgs false
namespace Go.Proofs.YtekkdhpgcilpdaaGreat
open Go Go.RowKit Go.Gv Go.Fl
/-! ### Without some records -/
section
variable {can can' : Nat → Int → Bool} {m : Nat} {out : Nat → Bool}
end
section
variable {xs : List Int} {R : List RC} {k r : Nat} {l : Lg}
end
section
variable {l : Lg} {t xs : List Int} {co : List Sg} {er : Int} {se : List Int} {sl : List SN} {rl : List RC}
end


end Go.Proofs.YtekkdhpgcilpdaaGreat
