/- Contracts. -/
import Derived.Test.YtbikicakdkbcgabGreatF5
set_option linter.unusedVariables false
set_option linter.unusedSimpArgs false
namespace Go.Proofs.YtbikicakdkbcgabGreat
open Go Go.RowKit Go.Gv Go.Fl

theorem tup2 {x x' y y' : Value} (h : x = x') (h' : y = y') : Value.tuple ⟨[x, y]⟩ = .tuple ⟨[x', y']⟩ := by rw [h, h']
end Go.Proofs.YtbikicakdkbcgabGreat
