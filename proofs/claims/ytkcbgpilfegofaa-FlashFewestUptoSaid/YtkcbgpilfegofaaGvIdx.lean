/- An element of an array that is a value. Conditions: none. -/
import Derived.Test.YtkcbgpilfegofaaGvDrawB
set_option linter.unusedVariables false
set_option linter.unusedSimpArgs false
namespace Go.Gv
open Go Go.RowKit
section
variable {P : Program} {ops : Array Oper} {e : Env} {w : World} {d : Option Nat} {ty : TypeId} {pos : String} {af : Array Edge} {g : Option (Nat × Bool)}
theorem q_index_arr1 {t el : TypeId} {x y : Operand} {n : Nat} {vs : List Value} {i : Int} {v : Value} (ht : P.underlying t = some (.array n el)) (hag : ∀ w, (isAgg el).run P w = .ok false w) (hsz : ∀ w, (sizeOf el).run P w = .ok 1 w)
    (hx : ev e x = .agg ⟨vs⟩) (hy : ev e y = vint i) (hr : 0 ≤ i ∧ i < n) (hv : vs[i.toNat]? = some v) (hw : wantedE ops e ⟨d, .index t x y, ty, pos, af, g⟩ = true) : QuietAt P ops e w ⟨d, .index t x y, ty, pos, af, g⟩ v :=
  .inl ⟨hw, rfl, by
    simp [execOp, hx, hy, Instr.index, asIntOf, run_underlying ht, hr, hsz, part, hag, hv]⟩
end
end Go.Gv
