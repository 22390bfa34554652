/- The program logic's laws for single operations that touch no memory. Conditions: none. -/
import Derived.Test.YtkcbgpilfegofaaGv
import Derived.WalkKit
set_option linter.unusedVariables false
set_option linter.unusedSimpArgs false
namespace Go.Gv
open Go Go.RowKit

abbrev vint (n : Int) : Value := .int .i64 n
abbrev vstr (l : List UInt8) : Value := .string ⟨⟨l⟩⟩
abbrev ptr (b o : Nat) : Value := .pointer (some ⟨b, o, none⟩)
abbrev vfn (f : FuncId) (cap : Array Value) : Value := .func (.func f) #[] cap

theorem wrap_in {n : Int} (h : -9223372036854775808 ≤ n ∧ n ≤ 9223372036854775807) : IntKind.i64.wrap n = n := by
  simp [IntKind.wrap, IntKind.signed, IntKind.bits]; omega

section
variable {C : Ctx} {P : Program} {ops : Array Oper} {rest : List Oper} {k : List Item} {e : Env} {D : List Deferred} {w : World}
variable {d : Option Nat} {ty : TypeId} {pos : String} {af : Array Edge} {g : Option (Nat × Bool)}

theorem q_move {x : Operand} {v : Value} (hx : ev e x = v) (hw : wantedE ops e ⟨d, .move x, ty, pos, af, g⟩ = true) : QuietAt P ops e w ⟨d, .move x, ty, pos, af, g⟩ v :=
  .inl ⟨hw, rfl, (by simp [execOp, hx])⟩
theorem q_assign {x : Operand} {v : Value} (hx : ev e x = v) (hw : wantedE ops e ⟨d, .assign x, ty, pos, af, g⟩ = true) : QuietAt P ops e w ⟨d, .assign x, ty, pos, af, g⟩ v :=
  .inl ⟨hw, rfl, (by simp [execOp, hx])⟩
theorem q_pick_t {c x y : Operand} {v : Value} (hc : ev e c = .bool true) (hx : ev e x = v) (hw : wantedE ops e ⟨d, .pick c x y, ty, pos, af, g⟩ = true)
    : QuietAt P ops e w ⟨d, .pick c x y, ty, pos, af, g⟩ v :=
  .inl ⟨hw, rfl, (by simp [execOp, hx, hc, asBool])⟩
theorem q_pick_f {c x y : Operand} {v : Value} (hc : ev e c = .bool false) (hx : ev e y = v) (hw : wantedE ops e ⟨d, .pick c x y, ty, pos, af, g⟩ = true)
    : QuietAt P ops e w ⟨d, .pick c x y, ty, pos, af, g⟩ v :=
  .inl ⟨hw, rfl, (by simp [execOp, hx, hc, asBool])⟩
theorem q_extract {x : Operand} {ix : Nat} {vs : List Value} {v : Value} (hx : ev e x = .tuple ⟨vs⟩) (hv : vs[ix]? = some v) (hw : wantedE ops e ⟨d, .extract x ix, ty, pos, af, g⟩ = true)
    : QuietAt P ops e w ⟨d, .extract x ix, ty, pos, af, g⟩ v :=
  .inl ⟨hw, rfl, (by simp [execOp, hx, Instr.extract, hv])⟩
theorem q_nilCheck {x : Operand} {a : Addr} (hx : ev e x = .pointer (some a)) (hw : wantedE ops e ⟨d, .nilCheck x, ty, pos, af, g⟩ = true)
    : QuietAt P ops e w ⟨d, .nilCheck x, ty, pos, af, g⟩ (.pointer (some a)) :=
  .inl ⟨hw, rfl, (by simp [execOp, hx])⟩
theorem q_not {t : TypeId} {x : Operand} {b : Bool} (hx : ev e x = .bool b) (hw : wantedE ops e ⟨d, .unOp .not t x, ty, pos, af, g⟩ = true)
    : QuietAt P ops e w ⟨d, .unOp .not t x, ty, pos, af, g⟩ (.bool (!b)) :=
  .inl ⟨hw, rfl, (by simp [execOp, hx, Op.unary])⟩
theorem q_neg {t : TypeId} {x : Operand} {a : Int} (hx : ev e x = vint a) (hr : -9223372036854775808 ≤ 0 - a ∧ 0 - a ≤ 9223372036854775807) (hw : wantedE ops e ⟨d, .unOp .neg t x, ty, pos, af, g⟩ = true)
    : QuietAt P ops e w ⟨d, .unOp .neg t x, ty, pos, af, g⟩ (vint (0 - a)) :=
  .inl ⟨hw, rfl, (by simp only [execOp, hx, Op.unary, Op.intArith, wrap_in hr]; rfl)⟩

theorem q_add {t yt : TypeId} {x y : Operand} {a b : Int} (hx : ev e x = vint a) (hy : ev e y = vint b) (hr : -9223372036854775808 ≤ a + b ∧ a + b ≤ 9223372036854775807)
    (hw : wantedE ops e ⟨d, .binOp .add t x y yt, ty, pos, af, g⟩ = true) : QuietAt P ops e w ⟨d, .binOp .add t x y yt, ty, pos, af, g⟩ (vint (a + b)) :=
  .inl ⟨hw, rfl, (by simp [execOp, hx, hy, eqGuard, binOp, Op.intArith, wrap_in hr])⟩
theorem q_sub {t yt : TypeId} {x y : Operand} {a b : Int} (hx : ev e x = vint a) (hy : ev e y = vint b) (hr : -9223372036854775808 ≤ a - b ∧ a - b ≤ 9223372036854775807)
    (hw : wantedE ops e ⟨d, .binOp .sub t x y yt, ty, pos, af, g⟩ = true) : QuietAt P ops e w ⟨d, .binOp .sub t x y yt, ty, pos, af, g⟩ (vint (a - b)) :=
  .inl ⟨hw, rfl, (by simp [execOp, hx, hy, eqGuard, binOp, Op.intArith, wrap_in hr])⟩
theorem q_mul {t yt : TypeId} {x y : Operand} {a b : Int} (hx : ev e x = vint a) (hy : ev e y = vint b) (hr : -9223372036854775808 ≤ a * b ∧ a * b ≤ 9223372036854775807)
    (hw : wantedE ops e ⟨d, .binOp .mul t x y yt, ty, pos, af, g⟩ = true) : QuietAt P ops e w ⟨d, .binOp .mul t x y yt, ty, pos, af, g⟩ (vint (a * b)) :=
  .inl ⟨hw, rfl, (by simp [execOp, hx, hy, eqGuard, binOp, Op.intArith, wrap_in hr])⟩
theorem q_quo {t yt : TypeId} {x y : Operand} {a b : Int} (hx : ev e x = vint a) (hy : ev e y = vint b) (hr : 0 ≤ a ∧ a ≤ 9223372036854775807 ∧ 0 < b)
    (hw : wantedE ops e ⟨d, .binOp .quo t x y yt, ty, pos, af, g⟩ = true) : QuietAt P ops e w ⟨d, .binOp .quo t x y yt, ty, pos, af, g⟩ (vint (a / b)) :=
  .inl ⟨hw, rfl, (by
    have h1 : a.tdiv b = a / b := Int.tdiv_eq_ediv_of_nonneg hr.1
    have h2 : 0 ≤ a / b := Int.ediv_nonneg hr.1 (by omega)
    have h3 : a / b ≤ a := Int.ediv_le_self b hr.1
    have h4 : b ≠ 0 := by omega
    simp [execOp, hx, hy, eqGuard, binOp, Op.intDiv, h4, h1, wrap_in (n := a / b) ⟨by omega, by omega⟩])⟩
theorem q_rem {t yt : TypeId} {x y : Operand} {kd : IntKind} {a b : Int} (hx : ev e x = .int kd a) (hy : ev e y = .int kd b) (hr : 0 ≤ a ∧ 0 < b)
    (hw : wantedE ops e ⟨d, .binOp .rem t x y yt, ty, pos, af, g⟩ = true) : QuietAt P ops e w ⟨d, .binOp .rem t x y yt, ty, pos, af, g⟩ (.int kd (a % b)) :=
  .inl ⟨hw, rfl, (by
    have h1 : a.tmod b = a % b := Int.tmod_eq_emod_of_nonneg hr.1
    have h4 : b ≠ 0 := by omega
    simp [execOp, hx, hy, eqGuard, binOp, Op.intDiv, h4, h1])⟩

theorem q_lss {t yt : TypeId} {x y : Operand} {kd : IntKind} {a b : Int} (hx : ev e x = .int kd a) (hy : ev e y = .int kd b)
    (hw : wantedE ops e ⟨d, .binOp .lss t x y yt, ty, pos, af, g⟩ = true) : QuietAt P ops e w ⟨d, .binOp .lss t x y yt, ty, pos, af, g⟩ (.bool (decide (a < b))) :=
  .inl ⟨hw, rfl, (by simp [execOp, hx, hy, eqGuard, binOp, Op.intCmp])⟩
theorem q_leq {t yt : TypeId} {x y : Operand} {kd : IntKind} {a b : Int} (hx : ev e x = .int kd a) (hy : ev e y = .int kd b)
    (hw : wantedE ops e ⟨d, .binOp .leq t x y yt, ty, pos, af, g⟩ = true) : QuietAt P ops e w ⟨d, .binOp .leq t x y yt, ty, pos, af, g⟩ (.bool (decide (a ≤ b))) :=
  .inl ⟨hw, rfl, (by simp [execOp, hx, hy, eqGuard, binOp, Op.intCmp])⟩
theorem q_gtr {t yt : TypeId} {x y : Operand} {kd : IntKind} {a b : Int} (hx : ev e x = .int kd a) (hy : ev e y = .int kd b)
    (hw : wantedE ops e ⟨d, .binOp .gtr t x y yt, ty, pos, af, g⟩ = true) : QuietAt P ops e w ⟨d, .binOp .gtr t x y yt, ty, pos, af, g⟩ (.bool (decide (b < a))) :=
  .inl ⟨hw, rfl, (by simp [execOp, hx, hy, eqGuard, binOp, Op.intCmp])⟩
theorem q_geq {t yt : TypeId} {x y : Operand} {kd : IntKind} {a b : Int} (hx : ev e x = .int kd a) (hy : ev e y = .int kd b)
    (hw : wantedE ops e ⟨d, .binOp .geq t x y yt, ty, pos, af, g⟩ = true) : QuietAt P ops e w ⟨d, .binOp .geq t x y yt, ty, pos, af, g⟩ (.bool (decide (b ≤ a))) :=
  .inl ⟨hw, rfl, (by simp [execOp, hx, hy, eqGuard, binOp, Op.intCmp])⟩
theorem q_eql {t yt : TypeId} {x y : Operand} {kd : IntKind} {a b : Int} (hx : ev e x = .int kd a) (hy : ev e y = .int kd b)
    (hw : wantedE ops e ⟨d, .binOp .eql t x y yt, ty, pos, af, g⟩ = true) : QuietAt P ops e w ⟨d, .binOp .eql t x y yt, ty, pos, af, g⟩ (.bool (decide (a = b))) :=
  .inl ⟨hw, rfl, (by simp [execOp, hx, hy, eqGuard, binOp, Op.intCmp]; rfl)⟩
theorem q_neq {t yt : TypeId} {x y : Operand} {kd : IntKind} {a b : Int} (hx : ev e x = .int kd a) (hy : ev e y = .int kd b)
    (hw : wantedE ops e ⟨d, .binOp .neq t x y yt, ty, pos, af, g⟩ = true) : QuietAt P ops e w ⟨d, .binOp .neq t x y yt, ty, pos, af, g⟩ (.bool (!decide (a = b))) :=
  .inl ⟨hw, rfl, (by simp [execOp, hx, hy, eqGuard, binOp, Op.intCmp]; rfl)⟩

/-- bools -/
theorem run_equal_bool {P : Program} {t : TypeId} {w : World} {a b : Bool} (ht : P.underlying t = some .bool) : (Op.equal t (.bool a) (.bool b)).run P w = .ok (a == b) w := by
  have h : ∀ d, (Op.equalIn (d + 1) t (.bool a) (.bool b)).run P w = .ok (a == b) w := fun d => by simp [Op.equalIn, underlying, ht]
  exact h 9999
theorem beq_list (a b : List UInt8) : (a == b) = decide (a = b) := Bool.eq_iff_iff.2 (by simp)
theorem q_eql_bool {t yt : TypeId} {x y : Operand} {a b : Bool} (ht : P.underlying t = some .bool) (hx : ev e x = .bool a) (hy : ev e y = .bool b)
    (hw : wantedE ops e ⟨d, .binOp .eql t x y yt, ty, pos, af, g⟩ = true) : QuietAt P ops e w ⟨d, .binOp .eql t x y yt, ty, pos, af, g⟩ (.bool (a == b)) :=
  .inl ⟨hw, rfl, (by simp [execOp, hx, hy, eqGuard, binOp, run_equal_bool ht])⟩
theorem q_neq_bool {t yt : TypeId} {x y : Operand} {a b : Bool} (ht : P.underlying t = some .bool) (hx : ev e x = .bool a) (hy : ev e y = .bool b)
    (hw : wantedE ops e ⟨d, .binOp .neq t x y yt, ty, pos, af, g⟩ = true) : QuietAt P ops e w ⟨d, .binOp .neq t x y yt, ty, pos, af, g⟩ (.bool (!(a == b))) :=
  .inl ⟨hw, rfl, (by simp [execOp, hx, hy, eqGuard, binOp, run_equal_bool ht])⟩

/-- strings -/
theorem toList_mk (l : List UInt8) : ByteArray.toList ⟨⟨l⟩⟩ = l := by rw [ByteArray.toList_eq]
theorem q_eql_str {t yt : TypeId} {x y : Operand} {a b : List UInt8} (hx : ev e x = vstr a) (hy : ev e y = vstr b)
    (hw : wantedE ops e ⟨d, .binOp .eql t x y yt, ty, pos, af, g⟩ = true) : QuietAt P ops e w ⟨d, .binOp .eql t x y yt, ty, pos, af, g⟩ (.bool (decide (a = b))) :=
  .inl ⟨hw, rfl, (by simp [execOp, hx, hy, eqGuard, binOp, Op.stringOp, toList_mk, beq_list])⟩
theorem q_neq_str {t yt : TypeId} {x y : Operand} {a b : List UInt8} (hx : ev e x = vstr a) (hy : ev e y = vstr b)
    (hw : wantedE ops e ⟨d, .binOp .neq t x y yt, ty, pos, af, g⟩ = true) : QuietAt P ops e w ⟨d, .binOp .neq t x y yt, ty, pos, af, g⟩ (.bool (!decide (a = b))) :=
  .inl ⟨hw, rfl, (by simp [execOp, hx, hy, eqGuard, binOp, Op.stringOp, toList_mk, beq_list])⟩
theorem q_add_str {t yt : TypeId} {x y : Operand} {a b : List UInt8} (hx : ev e x = vstr a) (hy : ev e y = vstr b) (hr : a.length + b.length ≤ 9223372036854775807)
    (hw : wantedE ops e ⟨d, .binOp .add t x y yt, ty, pos, af, g⟩ = true) : QuietAt P ops e w ⟨d, .binOp .add t x y yt, ty, pos, af, g⟩ (vstr (a ++ b)) :=
  .inl ⟨hw, rfl, (by
    have h1 : (⟨⟨a⟩⟩ : ByteArray) ++ ⟨⟨b⟩⟩ = ⟨⟨a ++ b⟩⟩ := by
      apply ByteArray.ext
      simp [ByteArray.data_append]
    have h2 : (⟨⟨a⟩⟩ : ByteArray).size = a.length := rfl
    have h3 : (⟨⟨b⟩⟩ : ByteArray).size = b.length := rfl
    have h4 : ¬ (IntKind.i64.max < ((a.length : Int) + b.length)) := by simp [IntKind.max, IntKind.signed, IntKind.bits]; omega
    simp [execOp, hx, hy, eqGuard, binOp, Op.stringOp, h1, h2, h3, h4]; omega)⟩

theorem q_len_str {at_ : Array TypeId} {t : TypeId} {x : Operand} {a : List UInt8} (hat : at_[0]? = some t) (ht : P.underlying t = some .string) (hx : ev e x = vstr a)
    (hw : wantedE ops e ⟨d, .call ⟨.builtin .len, #[x], at_⟩, ty, pos, af, g⟩ = true) : QuietAt P ops e w ⟨d, .call ⟨.builtin .len, #[x], at_⟩, ty, pos, af, g⟩ (vint a.length) :=
  .inl ⟨hw, rfl, (by
    have h2 : (⟨⟨a⟩⟩ : ByteArray).size = a.length := rfl
    simp [execOp, resolve, invoke, builtin, Builtin.len_, hat, hx, underlying, ht, goInt, h2])⟩
theorem q_len {at_ : Array TypeId} {t el : TypeId} {x : Operand} {a : Option Addr} {n c : Nat} (hat : at_[0]? = some t) (ht : P.underlying t = some (.slice el)) (hx : ev e x = .slice a n c)
    (hw : wantedE ops e ⟨d, .call ⟨.builtin .len, #[x], at_⟩, ty, pos, af, g⟩ = true) : QuietAt P ops e w ⟨d, .call ⟨.builtin .len, #[x], at_⟩, ty, pos, af, g⟩ (vint n) :=
  .inl ⟨hw, rfl, (by simp [execOp, resolve, invoke, builtin, Builtin.len_, hat, hx, underlying, ht, goInt])⟩
theorem q_cap {at_ : Array TypeId} {t el : TypeId} {x : Operand} {a : Option Addr} {n c : Nat} (hat : at_[0]? = some t) (ht : P.underlying t = some (.slice el)) (hx : ev e x = .slice a n c)
    (hw : wantedE ops e ⟨d, .call ⟨.builtin .cap, #[x], at_⟩, ty, pos, af, g⟩ = true) : QuietAt P ops e w ⟨d, .call ⟨.builtin .cap, #[x], at_⟩, ty, pos, af, g⟩ (vint c) :=
  .inl ⟨hw, rfl, (by simp [execOp, resolve, invoke, builtin, Builtin.cap_, hat, hx, underlying, ht, goInt])⟩
theorem q_min {at_ : Array TypeId} {x y : Operand} {a b : Int} (hx : ev e x = vint a) (hy : ev e y = vint b)
    (hw : wantedE ops e ⟨d, .call ⟨.builtin .min, #[x, y], at_⟩, ty, pos, af, g⟩ = true) : QuietAt P ops e w ⟨d, .call ⟨.builtin .min, #[x, y], at_⟩, ty, pos, af, g⟩ (vint (min a b)) :=
  .inl ⟨hw, rfl, (by
    have : (if b < a then b else a) = min a b := by omega
    simp [execOp, resolve, invoke, builtin, Builtin.min_, Builtin.min2, hx, hy, this])⟩
theorem q_max {at_ : Array TypeId} {x y : Operand} {a b : Int} (hx : ev e x = vint a) (hy : ev e y = vint b)
    (hw : wantedE ops e ⟨d, .call ⟨.builtin .max, #[x, y], at_⟩, ty, pos, af, g⟩ = true) : QuietAt P ops e w ⟨d, .call ⟨.builtin .max, #[x, y], at_⟩, ty, pos, af, g⟩ (vint (max a b)) :=
  .inl ⟨hw, rfl, (by
    have : (if a < b then b else a) = max a b := by omega
    simp [execOp, resolve, invoke, builtin, Builtin.max_, Builtin.max2, hx, hy, this])⟩

theorem q_index_str {t : TypeId} {x y : Operand} {a : List UInt8} {i : Int} {c : UInt8} (ht : P.underlying t = some .string) (hx : ev e x = vstr a) (hy : ev e y = vint i) (hr : 0 ≤ i) (hc : a[i.toNat]? = some c)
    (hw : wantedE ops e ⟨d, .index t x y, ty, pos, af, g⟩ = true) : QuietAt P ops e w ⟨d, .index t x y, ty, pos, af, g⟩ (.int .u8 c.toNat) :=
  .inl ⟨hw, rfl, (by
    have h1 : (⟨⟨a⟩⟩ : ByteArray)[i.toNat]? = some c := by
      obtain ⟨hl, he⟩ := List.getElem?_eq_some_iff.1 hc
      have hs : i.toNat < (⟨⟨a⟩⟩ : ByteArray).size := hl
      rw [getElem?_pos (⟨⟨a⟩⟩ : ByteArray) i.toNat hs]
      exact congrArg some he
    simp [execOp, hx, hy, Instr.index, asIntOf, underlying, ht, hr, h1])⟩

theorem extract_mk (a : List UInt8) (l h : Nat) : ByteArray.extract ⟨⟨a⟩⟩ l h = ⟨⟨(a.take h).drop l⟩⟩ := by
  apply ByteArray.ext
  rw [ByteArray.data_extract]
  apply Array.ext'
  simp [List.extract_eq_take_drop]
  rw [List.take_drop]
  by_cases hlh : l ≤ h
  · rw [Nat.add_sub_cancel' hlh]
  · rw [List.drop_eq_nil_of_le (by simp; omega), List.drop_eq_nil_of_le (by simp; omega)]

/-- s[lo:hi], s[lo:], s[:hi] -/
theorem q_slice_str {t : TypeId} {x y z : Operand} {a : List UInt8} {lo hi : Int} (ht : P.underlying t = some .string) (hx : ev e x = vstr a) (hy : ev e y = vint lo) (hz : ev e z = vint hi) (hr : 0 ≤ lo ∧ lo ≤ hi ∧ hi ≤ a.length)
    (hw : wantedE ops e ⟨d, .slice t x (some y) (some z) none, ty, pos, af, g⟩ = true) : QuietAt P ops e w ⟨d, .slice t x (some y) (some z) none, ty, pos, af, g⟩ (vstr ((a.take hi.toNat).drop lo.toNat)) :=
  .inl ⟨hw, rfl, (by
    have h2 : (⟨⟨a⟩⟩ : ByteArray).size = a.length := rfl
    have h3 : 0 ≤ hi ∧ hi ≤ (a.length : Int) := by omega
    have h4 : 0 ≤ lo ∧ lo ≤ ((hi.toNat : Nat) : Int) := by omega
    simp [execOp, hx, hy, hz, Instr.sliceAt, Instr.slice, Instr.sliceBounds, Instr.sliceBound, asIntOf, underlying, ht, h2, h3, h4, extract_mk]; intro hh; omega)⟩
theorem q_slice_str_lo {t : TypeId} {x y : Operand} {a : List UInt8} {lo : Int} (ht : P.underlying t = some .string) (hx : ev e x = vstr a) (hy : ev e y = vint lo) (hr : 0 ≤ lo ∧ lo ≤ a.length)
    (hw : wantedE ops e ⟨d, .slice t x (some y) none none, ty, pos, af, g⟩ = true) : QuietAt P ops e w ⟨d, .slice t x (some y) none none, ty, pos, af, g⟩ (vstr (a.drop lo.toNat)) :=
  .inl ⟨hw, rfl, (by
    have h2 : (⟨⟨a⟩⟩ : ByteArray).size = a.length := rfl
    simp [execOp, hx, hy, Instr.sliceAt, Instr.slice, Instr.sliceBounds, Instr.sliceBound, asIntOf, underlying, ht, h2, hr, extract_mk])⟩
theorem q_slice_str_hi {t : TypeId} {x z : Operand} {a : List UInt8} {hi : Int} (ht : P.underlying t = some .string) (hx : ev e x = vstr a) (hz : ev e z = vint hi) (hr : 0 ≤ hi ∧ hi ≤ a.length)
    (hw : wantedE ops e ⟨d, .slice t x none (some z) none, ty, pos, af, g⟩ = true) : QuietAt P ops e w ⟨d, .slice t x none (some z) none, ty, pos, af, g⟩ (vstr (a.take hi.toNat)) :=
  .inl ⟨hw, rfl, (by
    have h2 : (⟨⟨a⟩⟩ : ByteArray).size = a.length := rfl
    simp [execOp, hx, hz, Instr.sliceAt, Instr.slice, Instr.sliceBounds, Instr.sliceBound, asIntOf, underlying, ht, h2, hr, extract_mk])⟩

/-- int(x) of a smaller unsigned integer, or of an int -/
theorem q_toInt {s t : TypeId} {x : Operand} {kd : IntKind} {a : Int} {k0 : IntKind} (hs : P.underlying s = some (.int k0)) (ht : P.underlying t = some (.int .i64)) (hx : ev e x = .int kd a) (hr : -9223372036854775808 ≤ a ∧ a ≤ 9223372036854775807)
    (hw : wantedE ops e ⟨d, .convert s t x, ty, pos, af, g⟩ = true) : QuietAt P ops e w ⟨d, .convert s t x, ty, pos, af, g⟩ (vint a) :=
  .inl ⟨hw, rfl, (by simp [execOp, hx, convert, underlying, hs, ht, Conv.intToInt, wrap_in hr])⟩

theorem map_list {α β : Type} (f : α → β) (a : Array α) : a.map f = ⟨a.toList.map f⟩ := by apply Array.ext'; simp
theorem q_makeFunc {fn : Fn} {a b : Array Operand} {v : Value} (hv : Value.func fn ⟨a.toList.map (ev e)⟩ ⟨b.toList.map (ev e)⟩ = v) (hw : wantedE ops e ⟨d, .makeFunc fn a b, ty, pos, af, g⟩ = true)
    : QuietAt P ops e w ⟨d, .makeFunc fn a b, ty, pos, af, g⟩ v :=
  .inl ⟨hw, rfl, (by simp only [execOp, Instr.makeFunc, map_list (ev e), hv]; rfl)⟩

theorem q_build {t : TypeId} {ps : Array (Nat × Operand)} {v : Value} (hv : ∀ w, (Instr.build t ⟨ps.toList.map fun p => (p.1, ev e p.2)⟩).run P w = .ok v w)
    (hw : wantedE ops e ⟨d, .build t ps, ty, pos, af, g⟩ = true) : QuietAt P ops e w ⟨d, .build t ps, ty, pos, af, g⟩ v :=
  .inl ⟨hw, rfl, (by
    have h1 : (ps.map fun (i, x) => (i, ev e x)) = ⟨ps.toList.map fun p => (p.1, ev e p.2)⟩ := map_list _ ps
    simp only [execOp, h1, Sem.run_bind, hv, Result.andThen_ok, Sem.run_pure])⟩

/-- a field of a struct value -/
theorem q_field {t : TypeId} {x : Operand} {f : Nat} {cs : Array Value} {v : Value} (hx : ev e x = .agg cs) (hv : ∀ w, (Instr.field t (.agg cs) f).run P w = .ok v w)
    (hw : wantedE ops e ⟨d, .field t x f, ty, pos, af, g⟩ = true) : QuietAt P ops e w ⟨d, .field t x f, ty, pos, af, g⟩ v :=
  .inl ⟨hw, rfl, (by simp [execOp, hx, hv])⟩

/-- a call of a function by its name -/
theorem o_call {f : FuncId} {as : Array Operand} {at_ : Array TypeId} {args : List Value} {R K : Value → World → Prop}
    (hin : ∀ args w, (callFunc f args).run P w = .ok (.enter f args) w) (ha : as.toList.map (ev e) = args) (hc : Ret P f args w R)
    (hw : wantedE ops e ⟨d, .call ⟨.value (.func f), as, at_⟩, ty, pos, af, g⟩ = true)
    (h : ∀ v w', R v w' → K v w') : EffAt P ops e w ⟨d, .call ⟨.value (.func f), as, at_⟩, ty, pos, af, g⟩ K :=
  .inl ⟨hw, rfl, .inr (.inr (.inl ⟨f, args, w, by
    have h1 : (Array.map (ev e) as) = args.toArray := by rw [map_list, ha]
    have h2 : (#[] : Array Value) ++ args.toArray = args.toArray := Array.empty_append
    have h3 : args.toArray ++ (#[] : Array Value) = args.toArray := Array.append_empty
    simp only [execOp, resolve, ev, Deferred.ofValue, invoke, h1, hin, Sem.run_bind, Sem.run_pure, Result.andThen_ok, h2, h3], hc.mono h⟩))⟩
/-- a call of a function value -/
theorem o_callv {f : FuncId} {x : Operand} {as : Array Operand} {at_ : Array TypeId} {fst cap args : List Value} {R K : Value → World → Prop}
    (hx : ev e x = .func (.func f) ⟨fst⟩ ⟨cap⟩) (hin : ∀ args w, (callFunc f args).run P w = .ok (.enter f args) w) (ha : fst ++ as.toList.map (ev e) ++ cap = args) (hc : Ret P f args w R)
    (hw : wantedE ops e ⟨d, .call ⟨.value x, as, at_⟩, ty, pos, af, g⟩ = true)
    (h : ∀ v w', R v w' → K v w') : EffAt P ops e w ⟨d, .call ⟨.value x, as, at_⟩, ty, pos, af, g⟩ K :=
  .inl ⟨hw, rfl, .inr (.inr (.inl ⟨f, args, w, by
    have h1 : (⟨fst⟩ : Array Value) ++ (Array.map (ev e) as) ++ ⟨cap⟩ = args.toArray := by rw [← ha, map_list]; apply Array.ext'; simp
    simp only [execOp, resolve, hx, Deferred.ofValue, invoke, h1, hin, Sem.run_bind, Sem.run_pure, Result.andThen_ok], hc.mono h⟩))⟩

/-- a bool that a guard asks: parted, and written out -/
theorem l_part {l : List Oper} (s : Nat) {b : Bool} (hb : e s = .bool b) (ht : b = true → RunsL C ops l k (upd e s (.bool true)) D w) (hf : b = false → RunsL C ops l k (upd e s (.bool false)) D w) :
    RunsL C ops l k e D w := by
  have hs : ∀ v, e s = v → upd e s v = e := by
    intro v hv
    funext t
    unfold upd
    cases h : Nat.beq t s with
    | false => rfl
    | true => have := Nat.eq_of_beq_eq_true h; subst this; exact hv.symm
  cases b with
  | true => have := ht rfl; rwa [hs _ hb] at this
  | false => have := hf rfl; rwa [hs _ hb] at this

theorem upd_same {s : Nat} {v : Value} (hv : e s = v) : upd e s v = e := by
  funext t
  unfold upd
  cases h : Nat.beq t s with
  | false => rfl
  | true => have := Nat.eq_of_beq_eq_true h; subst this; exact hv.symm

theorem updo_comm {a b : Option Nat} {u v : Value} (h : ∀ t, a = some t → b ≠ some t) : updo (updo e a u) b v = updo (updo e b v) a u := by
  cases a with
  | none => rfl
  | some a =>
    cases b with
    | none => rfl
    | some b =>
      have hab : a ≠ b := fun he => h a rfl (by rw [he])
      funext t
      simp only [updo, upd]
      cases h1 : Nat.beq t b <;> cases h2 : Nat.beq t a <;> simp only [cond]
      have := Nat.eq_of_beq_eq_true h1
      have := Nat.eq_of_beq_eq_true h2
      omega

/-- a frame of which some slots are known -/
def L : List (Nat × Value) → Env → Env
  | [], e => e
  | (s, v) :: l, e => upd (L l e) s v
def Knows (e : Env) : List (Nat × Value) → Prop
  | [] => True
  | (s, v) :: l => e s = v ∧ Knows e l
theorem L_same {l : List (Nat × Value)} (h : Knows e l) : L l e = e := by
  induction l with
  | nil => rfl
  | cons p l ih =>
    obtain ⟨s, v⟩ := p
    simp only [L]
    rw [ih h.2]
    exact upd_same h.1
/-- forget all slots but these -/
theorem r_forget (l : List (Nat × Value)) (hl : Knows e l) (h : ∀ e0, Runs C k (L l e0) D w) : Runs C k e D w := by
  have := h e
  rwa [L_same hl] at this

theorem r_join (l : List (Nat × Value)) (hl : Knows e l) (h : ∀ e0, Runs C k (L l e0) D w) : Runs C k e D w := r_forget l hl h
/-- a cut behind a region: what the rest needs -/
theorem l_cut {l : List Oper} {α : Type} (I : α → World → Prop) (s : α → List (Nat × Value)) (h2 : ∀ x e0 w', I x w' → Runs C k (L (s x) e0) D w')
    (h : (∀ x e0 w', I x w' → Runs C k (L (s x) e0) D w') → RunsL C ops l k e D w) : RunsL C ops l k e D w := h h2
/-- a cut behind a statement -/
theorem r_cut {c : Code} {α : Type} (I : α → World → Prop) (s : α → List (Nat × Value)) (h2 : ∀ x e0 w', I x w' → Runs C k (L (s x) e0) D w')
    (h : (∀ x e0 w', I x w' → Runs C k (L (s x) e0) D w') → Runs C (.code c :: k) e D w) : Runs C (.code c :: k) e D w := h h2
end
end Go.Gv
