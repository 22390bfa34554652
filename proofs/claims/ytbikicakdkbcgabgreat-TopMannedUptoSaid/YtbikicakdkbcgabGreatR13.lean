/- Contracts. -/
import Derived.Test.YtbikicakdkbcgabGreatR12
import Derived.Test.YtbikicakdkbcgabGreatR9
import Derived.Test.YtbikicakdkbcgabGreatGvCopy
set_option linter.unusedVariables false
set_option linter.unusedSimpArgs false
namespace Go.Proofs.YtbikicakdkbcgabGreat
open Go Go.RowKit Go.Gv Go.Fl

theorem below_own_of {N base e size n : Nat} {w w' : World} {v : Value} {xs : List Value} (hG : w.grownBy w' v.ownBlock) (h : w.ownsRow base e size v n xs) (hb : N ≤ base) (hN : N ≤ w.heap.size) : Below N w w' :=
  ⟨hG.os, hG.tape, hG.output, hG.size, fun k hk => hG.block k (by omega) (fun he => by have := own_block_ge h he.symm; omega)⟩
end Go.Proofs.YtbikicakdkbcgabGreat
