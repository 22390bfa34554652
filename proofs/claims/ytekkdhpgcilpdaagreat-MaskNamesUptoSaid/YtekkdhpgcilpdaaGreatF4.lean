/- Contracts. -/
import Derived.Test.YtekkdhpgcilpdaaGreatF2
import Derived.Test.YtekkdhpgcilpdaaGreatJoin
set_option linter.unusedVariables false
set_option linter.unusedSimpArgs false
namespace Go.Proofs.YtekkdhpgcilpdaaGreat
open Go Go.RowKit Go.Gv Go.Fl

theorem u8_ne {b : UInt8} {n : UInt8} (h : ¬ ((b.toNat : Int) = n.toNat)) : b ≠ n := fun he => h (by rw [he])
end Go.Proofs.YtekkdhpgcilpdaaGreat
set_option linter.unusedVariables false
set_option linter.unusedSimpArgs false
namespace Go.Proofs.YtekkdhpgcilpdaaGreat
open Go Go.RowKit Go.Gv Go.Fl

theorem u8_eq {b n : UInt8} (h : (b.toNat : Int) = n.toNat) : b = n := UInt8.toNat_inj.1 (by exact_mod_cast h)
end Go.Proofs.YtekkdhpgcilpdaaGreat
