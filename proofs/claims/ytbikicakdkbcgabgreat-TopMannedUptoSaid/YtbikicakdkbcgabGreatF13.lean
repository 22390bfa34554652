/- Contracts. -/
import Derived.Test.YtbikicakdkbcgabGreatF11
set_option linter.unusedVariables false
set_option linter.unusedSimpArgs false
namespace Go.Proofs.YtbikicakdkbcgabGreat
open Go Go.RowKit Go.Gv Go.Fl

theorem below_upd_any {B m : Nat} {w0 w w' : World} (hB : Below B w0 w) (hG : w.grownBy w' (some m)) (hm : B ≤ m) (hsz : B ≤ w.heap.size) : Below B w0 w' := hB.grown hG hsz (fun k hk => by cases hk; exact hm)
end Go.Proofs.YtbikicakdkbcgabGreat
set_option linter.unusedVariables false
set_option linter.unusedSimpArgs false
namespace Go.Proofs.YtbikicakdkbcgabGreat
open Go Go.RowKit Go.Gv Go.Fl

end Go.Proofs.YtbikicakdkbcgabGreat
