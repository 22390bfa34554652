/- Contracts. -/
import Derived.Test.YtgdanglidienmaaF2
set_option linter.unusedVariables false
set_option linter.unusedSimpArgs false
namespace Go.Proofs.Ytgdanglidienmaa
open Go Go.RowKit Go.Gv Go.Fl

theorem u8_ne {b : UInt8} {n : UInt8} (h : ¬ ((b.toNat : Int) = n.toNat)) : b ≠ n := fun he => h (by rw [he])
theorem u8_or {b : UInt8} (h : ((b.toNat : Int) = 46) ∨ ((b.toNat : Int) = 45)) : b = 46 ∨ b = 45 := by
  rcases h with h | h
  · left; apply UInt8.toNat_inj.1; exact_mod_cast h
  · right; apply UInt8.toNat_inj.1; exact_mod_cast h



end Go.Proofs.Ytgdanglidienmaa
