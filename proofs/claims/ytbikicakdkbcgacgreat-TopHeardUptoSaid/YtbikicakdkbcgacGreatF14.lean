/- Contracts. -/
import Derived.Test.YtbikicakdkbcgacGreatF13
set_option linter.unusedVariables false
set_option linter.unusedSimpArgs false
namespace Go.Proofs.YtbikicakdkbcgacGreat
open Go Go.RowKit Go.Gv Go.Fl

def sg1 (rd : Sg) (R B : List Int) (la sg : UInt8) (k : Nat) : Int := R.getD k 0 + 1
def sg2 (rd : Sg) (R B : List Int) (la sg : UInt8) (k : Nat) : Int := if 0 < k ∧ ((rd.getD (k - 1) 0).toNat : Int) = (sg.toNat : Int) then min (sg1 rd R B la sg k) (R.getD (k - 1) 0) else sg1 rd R B la sg k
def sg3 (rd : Sg) (R B : List Int) (la sg : UInt8) (k : Nat) : Int := if 1 < k ∧ (sg.toNat : Int) = 45 ∧ (rd.take k).drop (k - 2) = [46, 46] then min (sg2 rd R B la sg k) (R.getD (k - 2) 0 + 1) else sg2 rd R B la sg k
def sg4 (rd : Sg) (R B : List Int) (la sg : UInt8) (k : Nat) : Int := if 0 < k ∧ (sg.toNat : Int) = 46 ∧ (la.toNat : Int) = 46 ∧ ((rd.getD (k - 1) 0).toNat : Int) = 45 then min (sg3 rd R B la sg k) (B.getD (k - 1) 0 + 1) else sg3 rd R B la sg k
def sgv (rd : Sg) (R B : List Int) (la sg : UInt8) : Nat → Int
  | 0 => if rd.length < 0 then 1048576 else min (sg4 rd R B la sg 0) 1048576
  | k + 1 => if rd.length < k + 1 then 1048576 else min (if ((rd.getD k 0).toNat : Int) = 32 then min (sg4 rd R B la sg (k + 1)) (sgv rd R B la sg k + 1) else sg4 rd R B la sg (k + 1)) 1048576
def so (rd : Sg) (R B : List Int) (la sg : UInt8) (k : Nat) : List Int := (List.range k).map (sgv rd R B la sg) ++ List.replicate (41 - k) 0
section
variable {rd : Sg} {R B : List Int} {la sg : UInt8} {k : Nat}
end



end Go.Proofs.YtbikicakdkbcgacGreat
