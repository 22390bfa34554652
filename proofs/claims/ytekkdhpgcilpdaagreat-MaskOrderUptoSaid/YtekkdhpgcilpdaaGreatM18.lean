/- Contracts. -/
import Derived.Test.YtekkdhpgcilpdaaGreatM16
set_option linter.unusedVariables false
set_option linter.unusedSimpArgs false
namespace Go.Proofs.YtekkdhpgcilpdaaGreat
open Go Go.RowKit Go.Gv Go.Fl

section
variable {can can' : Nat → Int → Bool} {m k : Nat} {out out' : Nat → Bool} {a : List Int}
end
section
variable {l x : Lg} {more : RC} {r : Nat} {b : Int}
end
section
variable {l x : Lg}
end



end Go.Proofs.YtekkdhpgcilpdaaGreat
set_option linter.unusedVariables false
set_option linter.unusedSimpArgs false
namespace Go.Proofs.YtekkdhpgcilpdaaGreat
open Go Go.RowKit Go.Gv Go.Fl
section
variable {xs ys : List Int} {k : Nat}
end

theorem el61 : Elem Tryz.prog 61 (.agg ⟨[vint 0, vint 0, vstr []]⟩) 3 32 := elem_of (by kernel_rfl) rfl (by decide)
end Go.Proofs.YtekkdhpgcilpdaaGreat
