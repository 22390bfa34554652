/- Contracts. -/
import Derived.Test.YtekkdhpgcilpdaaGreatM17
set_option linter.unusedVariables false
set_option linter.unusedSimpArgs false
namespace Go.Proofs.YtekkdhpgcilpdaaGreat
open Go Go.RowKit Go.Gv Go.Fl
section
variable {xs ys : List Int} {k : Nat}
end

theorem el61 : Elem Tryz.prog 61 (.agg ⟨[vint 0, vint 0, vstr []]⟩) 3 32 := elem_of (by kernel_rfl) rfl (by decide)
end Go.Proofs.YtekkdhpgcilpdaaGreat
