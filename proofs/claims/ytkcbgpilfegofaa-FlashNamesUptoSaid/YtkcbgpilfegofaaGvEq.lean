/- Equality of arrays of ints, and of structs of two strings. Conditions: none. -/
import Derived.Test.YtkcbgpilfegofaaGvFr
import Derived.ChangeKeysEq
import Derived.Laws.StructEq
set_option linter.unusedVariables false
set_option linter.unusedSimpArgs false
namespace Go.Gv
open Go Go.RowKit
section
variable {P : Program}
theorem run_eqItems_ints {d : Nat} {e : TypeId} {kd : IntKind} (hu : P.underlying e = some (.int kd)) (ha : ∀ w, (isAgg e).run P w = .ok false w) (xs ys : List Int) (w : World) : ∀ (is : List Nat), (∀ i ∈ is, i < xs.length ∧ i < ys.length) →
    (Op.eqItems (d + 1) e 1 ⟨xs.map vint⟩ ⟨ys.map vint⟩ is).run P w = .ok (is.all (fun i => decide (xs.getD i 0 = ys.getD i 0))) w
  | [], _ => by simp [Op.eqItems]
  | i :: is, h => by
    have hi := h i (by simp)
    have hx : (part e ⟨xs.map vint⟩ (i * 1)).run P w = .ok (vint (xs.getD i 0)) w := part_cell ha (by rw [Nat.mul_one]; simpa using imap hi.1)
    have hy : (part e ⟨ys.map vint⟩ (i * 1)).run P w = .ok (vint (ys.getD i 0)) w := part_cell ha (by rw [Nat.mul_one]; simpa using imap hi.2)
    have he : (Op.equalIn (d + 1) e (vint (xs.getD i 0)) (vint (ys.getD i 0))).run P w = .ok (decide (xs.getD i 0 = ys.getD i 0)) w := by
      simp [Op.equalIn, run_underlying hu]
      exact rfl
    have ih := run_eqItems_ints (d := d) hu ha xs ys w is (fun j hj => h j (by simp [hj]))
    simp only [Op.eqItems, Sem.run_bind, hx, hy, he, Result.andThen_ok, List.all_cons]
    by_cases hq : xs.getD i 0 = ys.getD i 0
    · simp only [hq, decide_true, Bool.not_true, Bool.false_eq_true, if_false, ih, Bool.true_and]
    · have hq' : decide (xs.getD i 0 = ys.getD i 0) = false := decide_eq_false hq
      simp only [hq', Bool.not_false, if_true, Sem.run_pure, Bool.false_and]
theorem run_equal_ints {d : Nat} {t e : TypeId} {n : Nat} {i : TypeInfo} {kd : IntKind} (ht : P.underlying t = some (.array n e)) (hi : P.info? e = some i) (hc : P.cellsOf e = 1) (hu : P.underlying e = some (.int kd)) (ha : ∀ w, (isAgg e).run P w = .ok false w)
    (xs ys : List Int) (hx : xs.length = n) (hy : ys.length = n) (w : World) : (Op.equalIn (d + 1 + 1) t (.agg ⟨xs.map vint⟩) (.agg ⟨ys.map vint⟩)).run P w = .ok (decide (xs = ys)) w := by
  rw [run_equalIn_array w (d + 1) _ _ ht hi, hc, run_eqItems_ints hu ha xs ys w (List.range n) (fun j hj => by have := List.mem_range.1 hj; omega)]
  congr 1
  rw [Bool.eq_iff_iff, decide_eq_true_eq, List.all_eq_true]
  constructor
  · intro h
    exact ext_getD (d := 0) (by omega) (fun j hj => of_decide_eq_true (h j (List.mem_range.2 (by omega))))
  · intro h j _; rw [h]; exact decide_eq_true rfl
section
variable {ops : Array Oper} {e : Env} {w : World}
variable {d : Option Nat} {ty : TypeId} {pos : String} {af : Array Edge} {g : Option (Nat × Bool)}
theorem q_eql_ints {t yt el : TypeId} {x y : Operand} {n : Nat} {i : TypeInfo} {kd : IntKind} {xs ys : List Int} (ht : P.underlying t = some (.array n el)) (hi : P.info? el = some i) (hc : P.cellsOf el = 1) (hu : P.underlying el = some (.int kd)) (ha : ∀ w, (isAgg el).run P w = .ok false w)
    (hm : P.eqGuardType P.depth t = false) (hx : ev e x = .agg ⟨xs.map vint⟩) (hy : ev e y = .agg ⟨ys.map vint⟩) (hxl : xs.length = n) (hyl : ys.length = n)
    (hw : wantedE ops e ⟨d, .binOp .eql t x y yt, ty, pos, af, g⟩ = true) : QuietAt P ops e w ⟨d, .binOp .eql t x y yt, ty, pos, af, g⟩ (.bool (decide (xs = ys))) := by
  refine .inl ⟨hw, rfl, ?_⟩
  have h := run_equal_ints (P := P) (d := 9998) ht hi hc hu ha xs ys hxl hyl w
  simp only [execOp, hx, hy, Sem.run_bind, run_eqGuard_agg w _ _ _ _ _ _ hm, Result.andThen_ok, run_eql_struct]
  rw [h]; rfl
theorem q_eql_ints' {t yt el : TypeId} {x y : Operand} {n : Nat} {kd : IntKind} {xs ys : List Int} (ht : P.underlying t = some (.array n el)) (hi : (P.info? el).isSome = true) (hc : P.cellsOf el = 1) (hu : P.underlying el = some (.int kd)) (ha : ∀ w, (isAgg el).run P w = .ok false w)
    (hm : P.eqGuardType P.depth t = false) (hx : ev e x = .agg ⟨xs.map vint⟩) (hy : ev e y = .agg ⟨ys.map vint⟩) (hxl : xs.length = n) (hyl : ys.length = n)
    (hw : wantedE ops e ⟨d, .binOp .eql t x y yt, ty, pos, af, g⟩ = true) : QuietAt P ops e w ⟨d, .binOp .eql t x y yt, ty, pos, af, g⟩ (.bool (decide (xs = ys))) := by
  obtain ⟨i, hi⟩ := Option.isSome_iff_exists.1 hi
  exact q_eql_ints ht hi hc hu ha hm hx hy hxl hyl hw
theorem q_slice_arr_hi {t el : TypeId} {x z : Operand} {n b : Nat} {hi : Int} (ht : P.underlying t = some (.array n el)) (hsz : ∀ w, (sizeOf el).run P w = .ok 1 w)
    (hx : ev e x = ptr b 0) (hz : ev e z = vint hi) (hr : 0 ≤ hi ∧ hi ≤ n) (hn : n ≠ 0)
    (hw : wantedE ops e ⟨d, .slice t x none (some z) none, ty, pos, af, g⟩ = true) : QuietAt P ops e w ⟨d, .slice t x none (some z) none, ty, pos, af, g⟩ (.slice (some ⟨b, 0, none⟩) hi.toNat n) := by
  refine .inl ⟨hw, rfl, ?_⟩
  simp [execOp, hx, hz, Instr.sliceAt, Instr.slice, Instr.sliceBounds, Instr.sliceBound, asIntOf, run_underlying ht, hsz, hr, Instr.sureAddr, hn, Addr.add]
end
end
end Go.Gv
