/- Contracts. -/
import Derived.Test.YtekkdhpgcilpdaaGreatM20
set_option linter.unusedVariables false
set_option linter.unusedSimpArgs false
namespace Go.Proofs.YtekkdhpgcilpdaaGreat
open Go Go.RowKit Go.Gv Go.Fl
/-! ### Earlier seen: the walk's facts -/
section
variable {co : List Sg} {er : Int} {se X SE : List Int} {sl : List SN} {rl : List RC} {kn : Nat} {zb b b2 : Int} {D E : List SV}
end
theorem own_apart2 {w w' : World} {e size n B : Nat} {v v2 : Value} {xs : List Value} (h : w.ownsRow B e size v n xs) (hlt : ∀ g, v2.ownBlock = some g → g < B) (hG : w.grownBy w' v2.ownBlock) : w'.ownsRow B e size v n xs :=
  own_keepB h (fun g hg => hG.block g (h.lt g hg).2 (fun he => by have h1 := own_block_ge h hg; have h2 := hlt g he.symm; omega))



end Go.Proofs.YtekkdhpgcilpdaaGreat
set_option linter.unusedVariables false
set_option linter.unusedSimpArgs false
namespace Go.Proofs.YtekkdhpgcilpdaaGreat
open Go Go.RowKit Go.Gv Go.Fl
/-! ### Parts of wide rows; other orders -/
section
variable {co : List Sg} {er : Int} {se : List Int} {sl : List SN} {rl : List RC} {i k c : Nat} {w : World} {l : Lg}
end



end Go.Proofs.YtekkdhpgcilpdaaGreat
