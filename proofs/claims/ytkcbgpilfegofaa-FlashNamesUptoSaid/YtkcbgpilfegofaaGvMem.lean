/- The program logic's laws for operations on memory. Conditions: none. -/
import Derived.Test.YtkcbgpilfegofaaGvOps
set_option linter.unusedVariables false
set_option linter.unusedSimpArgs false
namespace Go.Gv
open Go Go.RowKit

def Blk (w : World) (b : Nat) (cs : List Value) : Prop := ∃ T, w.heap[b]? = some (.cells ⟨cs⟩ T (0, 0))
def Has (w : World) (b o : Nat) (v : Value) : Prop := w.cell? ⟨b, o, none⟩ = some v
def Cells (w : World) (b o : Nat) (cs : List Value) : Prop := ∀ j v, cs[j]? = some v → Has w b (o + j) v
/-- nothing that was there has turned -/
abbrev Ext (w w' : World) : Prop := w.grownBy w' none

theorem Ext.refl (w : World) : Ext w w := ⟨rfl, rfl, rfl, Nat.le_refl _, fun _ _ _ => rfl⟩
theorem Ext.of_below {w w' : World} (h : Below w.heap.size w w') : Ext w w' := ⟨h.os, h.tape, h.output, h.size, fun k hk _ => h.block k hk⟩
theorem Ext.below {w w' : World} (h : Ext w w') : Below w.heap.size w w' := ⟨h.os, h.tape, h.output, h.size, fun k hk => h.block k hk (by simp)⟩
theorem Ext.trans {a b c : World} (h : Ext a b) (h' : Ext b c) : Ext a c :=
  .of_below (h.below.trans (h'.below.mono h.size))
/-- the frame of the whole call, behind one more step -/
theorem below_step {B : Nat} {w0 w w' : World} {row : Option Nat} (h : Below B w0 w) (hg : w.grownBy w' row) (hB : B ≤ w.heap.size) (hr : ∀ k, row = some k → B ≤ k) : Below B w0 w' :=
  h.grown hg hB hr
theorem below_ext {B : Nat} {w0 w w' : World} (h : Below B w0 w) (hg : Ext w w') (hB : B ≤ w.heap.size) : Below B w0 w' :=
  h.grown hg hB (fun _ h => by simp at h)
theorem below_upd {B : Nat} {w0 w w' : World} {b : Nat} (h : Below B w0 w) (hg : w.grownBy w' (some b)) (hB : B ≤ w.heap.size) (hr : B ≤ b) : Below B w0 w' :=
  h.grown hg hB (fun k h => by cases h; exact hr)

theorem Blk.lt {w : World} {b : Nat} {cs : List Value} (h : Blk w b cs) : b < w.heap.size := by
  obtain ⟨T, h⟩ := h
  exact (Array.getElem?_eq_some_iff.1 h).1
theorem Blk.step {w w' : World} {row : Option Nat} {b : Nat} {cs : List Value} (h : Blk w b cs) (hg : w.grownBy w' row) (hne : some b ≠ row) : Blk w' b cs := by
  have hl := h.lt
  obtain ⟨T, h⟩ := h
  exact ⟨T, (hg.block b hl hne).trans h⟩
theorem Blk.ext {w w' : World} {b : Nat} {cs : List Value} (h : Blk w b cs) (hg : Ext w w') : Blk w' b cs := h.step hg (by simp)
theorem Blk.upd {w w' : World} {b b' : Nat} {cs : List Value} (h : Blk w b cs) (hg : w.grownBy w' (some b')) (hne : b ≠ b') : Blk w' b cs := h.step hg (by simpa using hne)
theorem Blk.below {w w' : World} {B b : Nat} {cs : List Value} (h : Blk w b cs) (hg : Below B w w') (hb : b < B) : Blk w' b cs := by
  obtain ⟨T, h⟩ := h
  exact ⟨T, (hg.block b hb).trans h⟩
theorem Blk.has {w : World} {b : Nat} {cs : List Value} (h : Blk w b cs) {o : Nat} {v : Value} (hv : cs[o]? = some v) : Has w b o v := by
  obtain ⟨T, h⟩ := h
  simp [Has, World.cell?, h, hv]
theorem Blk.cells {w : World} {b : Nat} {cs : List Value} (h : Blk w b cs) (o n : Nat) : Cells w b o ((cs.drop o).take n) := by
  intro j v hj
  refine h.has ?_
  rw [List.getElem?_take] at hj
  split at hj
  · rwa [List.getElem?_drop] at hj
  · cases hj
theorem Blk.cells' {w : World} {b : Nat} {cs cs' : List Value} (h : Blk w b cs) (o n : Nat) (he : (cs.drop o).take n = cs') : Cells w b o cs' := he ▸ h.cells o n
theorem Has.lt {w : World} {b o : Nat} {v : Value} (h : Has w b o v) : b < w.heap.size := World.block_lt_of_cell? w _ h
theorem Has.step {w w' : World} {row : Option Nat} {b o : Nat} {v : Value} (h : Has w b o v) (hg : w.grownBy w' row) (hne : some b ≠ row) : Has w' b o v := hg.cell h hne
theorem Has.ext {w w' : World} {b o : Nat} {v : Value} (h : Has w b o v) (hg : Ext w w') : Has w' b o v := h.step hg (by simp)
theorem Has.below {w w' : World} {B b o : Nat} {v : Value} (h : Has w b o v) (hg : Below B w w') (hb : b < B) : Has w' b o v :=
  (World.cell?_of_block (a := ⟨b, o, none⟩) (hg.block b hb)).trans h
theorem Cells.ext {w w' : World} {b o : Nat} {cs : List Value} (h : Cells w b o cs) (hg : Ext w w') : Cells w' b o cs := fun j v hj => (h j v hj).ext hg
theorem Cells.step {w w' : World} {row : Option Nat} {b o : Nat} {cs : List Value} (h : Cells w b o cs) (hg : w.grownBy w' row) (hne : some b ≠ row) : Cells w' b o cs := fun j v hj => (h j v hj).step hg hne
theorem Cells.below {w w' : World} {B b o : Nat} {cs : List Value} (h : Cells w b o cs) (hg : Below B w w') (hb : b < B) : Cells w' b o cs := fun j v hj => (h j v hj).below hg hb

/-- a slice of n elements of sz cells each reads as cs -/
def Row (w : World) (a : Option Addr) (n c sz : Nat) (cs : List Value) : Prop :=
  cs.length = n * sz ∧ n ≤ c ∧ (cs = [] ∨ ∃ b o, a = some ⟨b, o, none⟩ ∧ Cells w b o cs)

theorem Row.ext {w w' : World} {a : Option Addr} {n c sz : Nat} {cs : List Value} (h : Row w a n c sz cs) (hg : Ext w w') : Row w' a n c sz cs :=
  ⟨h.1, h.2.1, h.2.2.imp id fun ⟨b, o, ha, hc⟩ => ⟨b, o, ha, hc.ext hg⟩⟩
theorem Row.below {w w' : World} {a : Option Addr} {n c sz : Nat} {cs : List Value} (h : Row w a n c sz cs) (hg : Below w.heap.size w w') : Row w' a n c sz cs := h.ext (.of_below hg)
/-- across a step that turns a block in which the row does not lie -/
theorem Row.step {w w' : World} {row : Option Nat} {a : Option Addr} {n c sz : Nat} {cs : List Value} (h : Row w a n c sz cs) (hg : w.grownBy w' row) (hne : ∀ x, a = some x → some x.block ≠ row) : Row w' a n c sz cs :=
  ⟨h.1, h.2.1, h.2.2.imp id fun ⟨b, o, ha, hc⟩ => ⟨b, o, ha, hc.step hg (hne _ ha)⟩⟩
theorem Row.nil (w : World) (a : Option Addr) (c sz : Nat) : Row w a 0 c sz [] := ⟨by simp, Nat.zero_le _, .inl rfl⟩
theorem Row.of_owns {w : World} {base e sz : Nat} {a : Option Addr} {n c : Nat} {cs : List Value} (h : w.ownsRow base e sz (.slice a n c) n cs) : Row w a n c sz cs := by
  refine ⟨h.1, ?_, ?_⟩
  · rcases h.2 with ⟨h', h0⟩ | ⟨g, cap, cur, h', _, _, hn, _⟩
    · omega
    · cases h'; exact hn
  · rcases h.2 with ⟨h', h0⟩ | ⟨g, cap, cur, h', _⟩
    · left
      exact List.eq_nil_of_length_eq_zero (by rw [h.1, h0]; simp)
    · right
      cases h'
      refine ⟨g, 0, rfl, fun j v hj => ?_⟩
      have := World.ownsRow.cells h (g := g) rfl j v hj
      rw [Addr.add_lit] at this
      exact this
theorem owns_slice {w : World} {base e sz : Nat} {v : Value} {n : Nat} {cs : List Value} (h : w.ownsRow base e sz v n cs) : ∃ a c, v = .slice a n c := by
  rcases h.2 with ⟨h', h0⟩ | ⟨g, cap, cur, h', _⟩
  · subst h0; exact ⟨_, _, h'⟩
  · exact ⟨_, _, h'⟩

/-- an element of a slice, by its number: elements of one cell -/
theorem Row.at1 {α : Type} {f : α → Value} {xs : List α} {w : World} {a : Option Addr} {n c : Nat} (h : Row w a n c 1 (xs.map f)) (i : Nat) (x : α) (hx : xs[i]? = some x) : ∃ b o, a = some ⟨b, o, none⟩ ∧ Has w b (o + i) (f x) := by
  rcases h.2.2 with h0 | ⟨b, o, ha, hc⟩
  · simp at h0; subst h0; simp at hx
  · exact ⟨b, o, ha, hc i _ (by simp [hx])⟩
/-- elements of several cells -/
theorem Row.at {w : World} {a : Option Addr} {n c sz : Nat} {cs : List Value} (h : Row w a n c sz cs) (hp : 0 < sz) (i : Nat) (hi : i < n) : ∃ b o, a = some ⟨b, o, none⟩ ∧ Cells w b (o + i * sz) ((cs.drop (i * sz)).take sz) := by
  rcases h.2.2 with h0 | ⟨b, o, ha, hc⟩
  · have := h.1
    rw [h0] at this
    have : n * sz ≠ 0 := Nat.ne_of_gt (Nat.mul_pos (by omega) hp)
    simp at *
    omega
  · refine ⟨b, o, ha, fun j v hj => ?_⟩
    rw [List.getElem?_take] at hj
    split at hj
    · rw [List.getElem?_drop] at hj
      have := hc _ v hj
      rwa [← Nat.add_assoc] at this
    · cases hj

/-- what the program's table says of an element type -/
structure Elem (P : Program) (el : TypeId) (z : Value) (sz bytes : Nat) : Prop where
  info : ∃ i, P.info? el = some i ∧ i.zero = some z ∧ i.size = sz ∧ i.bytes = bytes
  zs : z.cells.size = sz
  pos : 0 < sz

theorem elem_of {P : Program} {el : TypeId} {z : Value} {sz bytes : Nat} (h : (P.info? el).map (fun i => (i.zero, i.size, i.bytes)) = some (some z, sz, bytes)) (hz : z.cells.size = sz) (hp : 0 < sz) : Elem P el z sz bytes := by
  refine ⟨?_, hz, hp⟩
  cases hi : P.info? el with
  | none => simp [hi] at h
  | some i => simp [hi] at h; exact ⟨i, rfl, h.1, h.2.1, h.2.2⟩

theorem Elem.size {P : Program} {el : TypeId} {z : Value} {sz bytes : Nat} (h : Elem P el z sz bytes) (w : World) : (sizeOf el).run P w = .ok sz w := by
  obtain ⟨i, hi, hz, hs, hb⟩ := h.info
  simp [sizeOf, typeInfo, hi, hs]
theorem Elem.zero {P : Program} {el : TypeId} {z : Value} {sz bytes : Nat} (h : Elem P el z sz bytes) (w : World) : (zeroValue el).run P w = .ok z w := by
  obtain ⟨i, hi, hz, hs, hb⟩ := h.info
  simp [zeroValue, typeInfo, hi, hz]

section
variable {C : Ctx} {P : Program} {ops : Array Oper} {rest : List Oper} {k : List Item} {e : Env} {D : List Deferred} {w : World}
variable {d : Option Nat} {ty : TypeId} {pos : String} {af : Array Edge} {g : Option (Nat × Bool)}

theorem blk_new (w : World) (cs : List Value) (T : TypeId) : Blk (w.alloc (.cells ⟨cs⟩ T)) w.heap.size cs := ⟨T, heap_alloc_new w _⟩

theorem o_box {K : Value → World → Prop} {t : TypeId} {x : Operand} {v : Value} {cs : List Value} (hx : ev e x = v) (hcs : v.cells = ⟨cs⟩) (hw : wantedE ops e ⟨d, .box t x, ty, pos, af, g⟩ = true)
    (h : ∀ b w', w.heap.size ≤ b → b < w'.heap.size → w.heap.size ≤ w'.heap.size → Blk w' b cs → Ext w w' → K ((ptr b 0)) w') : EffAt P ops e w ⟨d, .box t x, ty, pos, af, g⟩ K :=
  e_value (w' := w.alloc (.cells ⟨cs⟩ t)) hw rfl (by simp [execOp, hx, Instr.box, newVar, newRow, hcs])
    (h w.heap.size _ (Nat.le_refl _) (by simp) (by simp) (blk_new w cs t) (World.grownBy_alloc w _ none))

theorem o_alloc {K : Value → World → Prop} {t : TypeId} {z : Value} {cs : List Value} (hz : ∀ w, (zeroValue t).run P w = .ok z w) (hcs : z.cells = ⟨cs⟩) (hw : wantedE ops e ⟨d, .alloc t, ty, pos, af, g⟩ = true)
    (h : ∀ b w', w.heap.size ≤ b → b < w'.heap.size → w.heap.size ≤ w'.heap.size → Blk w' b cs → Ext w w' → K ((ptr b 0)) w') : EffAt P ops e w ⟨d, .alloc t, ty, pos, af, g⟩ K :=
  e_value (w' := w.alloc (.cells ⟨cs⟩ t)) hw rfl (by simp [execOp, Instr.alloc, hz, newVar, newRow, hcs])
    (h w.heap.size _ (Nat.le_refl _) (by simp) (by simp) (blk_new w cs t) (World.grownBy_alloc w _ none))

theorem q_load {t : TypeId} {x : Operand} {b o : Nat} {v : Value} (hag : ∀ w, (isAgg t).run P w = .ok false w) (hx : ev e x = ptr b o) (hc : Has w b o v) (hw : wantedE ops e ⟨d, .load t x, ty, pos, af, g⟩ = true)
    : QuietAt P ops e w ⟨d, .load t x, ty, pos, af, g⟩ v :=
  .inl ⟨hw, rfl, (by
    have hc' : w.cell? ⟨b, o, none⟩ = some v := hc
    simp [execOp, hx, Instr.loadAt, Instr.sureAddr, loadVar, hag, hc'])⟩

theorem q_load_agg {t : TypeId} {x : Operand} {b o n : Nat} {cs : List Value} (hag : ∀ w, (isAgg t).run P w = .ok true w) (hsz : ∀ w, (sizeOf t).run P w = .ok n w) (hx : ev e x = ptr b o) (hc : Cells w b o cs) (hn : cs.length = n) (hw : wantedE ops e ⟨d, .load t x, ty, pos, af, g⟩ = true)
    : QuietAt P ops e w ⟨d, .load t x, ty, pos, af, g⟩ ((.agg ⟨cs⟩)) :=
  .inl ⟨hw, rfl, (by
    subst hn
    have hl := run_loadCells_list (P := P) w ⟨b, o, none⟩ cs (fun j v hj => by rw [Addr.add_lit]; exact hc j v hj)
    simp [execOp, hx, Instr.loadAt, Instr.sureAddr, loadVar, hag, hsz, hl])⟩

theorem o_store {K : Value → World → Prop} {t : TypeId} {x y : Operand} {b o : Nat} {v : Value} {cs vs cs' : List Value} (hsz : ∀ w, (sizeOf t).run P w = .ok vs.length w) (hx : ev e x = ptr b o) (hy : ev e y = v) (hv : v.cells = ⟨vs⟩) (h1 : vs.all Value.oneCell' = true)
    (hb : Blk w b cs) (hf : o + vs.length ≤ cs.length) (hcs : cs.take o ++ vs ++ cs.drop (o + vs.length) = cs') (hw : wantedE ops e ⟨d, .store t x y, ty, pos, af, g⟩ = true)
    (h : ∀ w', w'.heap.size = w.heap.size → Blk w' b cs' → w.grownBy w' (some b) → K undef w') : EffAt P ops e w ⟨d, .store t x y, ty, pos, af, g⟩ K := by
  obtain ⟨T, hT⟩ := hb
  have hst := run_storeCells_at P b o T vs 0 ⟨cs⟩ w hT (by simpa using hf) (fun v hv => List.all_eq_true.1 h1 v hv)
  simp only [Nat.add_zero, hcs] at hst
  refine e_done (w' := w.setRow b ⟨cs'⟩) hw rfl ?_ (h _ (by simp) ⟨T, setRow_heap w b _ _ T _ hT⟩ ⟨rfl, rfl, rfl, by simp, fun k _ hk => setRow_other w b k _ (fun e => hk (by simp [e]))⟩)
  simp [execOp, hx, hy, Instr.storeAt, Instr.sureAddr, storeVar, hsz, hv, hst]

/-- &x.f: the field lies o' cells on -/
theorem q_fieldAddr {t : TypeId} {x : Operand} {f b o o' : Nat} (hx : ev e x = ptr b o) (hf : ∀ w b o, (Instr.fieldAt t (ptr b o) f).run P w = .ok (ptr b (o + o')) w) (hw : wantedE ops e ⟨d, .fieldAddr t x f, ty, pos, af, g⟩ = true)
    : QuietAt P ops e w ⟨d, .fieldAddr t x f, ty, pos, af, g⟩ ((ptr b (o + o'))) :=
  .inl ⟨hw, rfl, (by simp [execOp, hx, hf])⟩

theorem run_fieldAt {P : Program} {t : TypeId} {fields : Array Field} {f : Nat} {F : Field} {sz : Nat} (ht : P.underlying t = some (.struct fields)) (hf : fields[f]? = some F) (hs : ∀ w, (sizeOf F.type).run P w = .ok (sz + 1) w)
    (w : World) (b o : Nat) : (Instr.fieldAt t (ptr b o) f).run P w = .ok (ptr b (o + F.offset)) w := by
  simp [Instr.fieldAt, run_underlying ht, hf, Instr.sureAddr, fieldPlace, hs, Addr.add_lit]

theorem q_indexAddr {t el : TypeId} {x y : Operand} {a : Option Addr} {n c sz b o : Nat} {kd : IntKind} {i : Int} (ht : P.underlying t = some (.slice el)) (hsz : ∀ w, (sizeOf el).run P w = .ok sz w)
    (hx : ev e x = .slice a n c) (ha : a = some ⟨b, o, none⟩) (hy : ev e y = .int kd i) (hr : 0 ≤ i ∧ i < n) (hw : wantedE ops e ⟨d, .indexAddr t x y, ty, pos, af, g⟩ = true) :
    QuietAt P ops e w ⟨d, .indexAddr t x y, ty, pos, af, g⟩ (ptr b (o + i.toNat * sz)) :=
  .inl ⟨hw, rfl, by
    subst ha
    simp [execOp, hx, hy, Instr.indexAt, asIntOf, run_underlying ht, hr, hsz, Addr.add_lit]⟩
/-- elements of one cell -/
theorem q_indexAddr1 {t el : TypeId} {x y : Operand} {a : Option Addr} {n c b o : Nat} {kd : IntKind} {i : Int} (ht : P.underlying t = some (.slice el)) (hsz : ∀ w, (sizeOf el).run P w = .ok 1 w)
    (hx : ev e x = .slice a n c) (ha : a = some ⟨b, o, none⟩) (hy : ev e y = .int kd i) (hr : 0 ≤ i ∧ i < n) (hw : wantedE ops e ⟨d, .indexAddr t x y, ty, pos, af, g⟩ = true) :
    QuietAt P ops e w ⟨d, .indexAddr t x y, ty, pos, af, g⟩ (ptr b (o + i.toNat)) :=
  .inl ⟨hw, rfl, by
    subst ha
    simp [execOp, hx, hy, Instr.indexAt, asIntOf, run_underlying ht, hr, hsz, Addr.add_lit]⟩

/-- an element of an array in memory -/
theorem q_indexAddr_arr {t el : TypeId} {x y : Operand} {n sz b o : Nat} {kd : IntKind} {i : Int} (ht : P.underlying t = some (.array n el)) (hsz : ∀ w, (sizeOf el).run P w = .ok sz w)
    (hx : ev e x = ptr b o) (hy : ev e y = .int kd i) (hr : 0 ≤ i ∧ i < n) (hw : wantedE ops e ⟨d, .indexAddr t x y, ty, pos, af, g⟩ = true)
    : QuietAt P ops e w ⟨d, .indexAddr t x y, ty, pos, af, g⟩ ((ptr b (o + i.toNat * sz))) :=
  .inl ⟨hw, rfl, (by simp [execOp, hx, hy, Instr.indexAt, asIntOf, run_underlying ht, Instr.sureAddr, hr, hsz, Addr.add_lit])⟩

theorem Row.slice {w : World} {a : Option Addr} {n c sz : Nat} {cs : List Value} (h : Row w a n c sz cs) {lo hi : Nat} (h1 : lo ≤ hi) (h2 : hi ≤ n) :
    Row w (if c = lo then a else a.map (·.add (lo * sz))) (hi - lo) (c - lo) sz ((cs.take (hi * sz)).drop (lo * sz)) := by
  obtain ⟨hl, hc, hr⟩ := h
  have hsz : hi * sz ≤ n * sz := Nat.mul_le_mul_right _ h2
  refine ⟨by simp [Nat.min_eq_left (hl ▸ hsz : hi * sz ≤ cs.length), Nat.sub_mul], by omega, ?_⟩
  rcases hr with rfl | ⟨b, o, rfl, hce⟩
  · left; simp
  · by_cases he : c = lo
    · left
      have : hi = lo := by omega
      subst this
      exact List.drop_eq_nil_of_le (by simp; exact Nat.min_le_left _ _)
    · right
      refine ⟨b, o + lo * sz, by simp [he, Addr.add_lit], fun j v hj => ?_⟩
      rw [List.getElem?_drop, List.getElem?_take] at hj
      split at hj
      · have := hce _ v hj
        rwa [← Nat.add_assoc] at this
      · cases hj

/-- s[lo:hi] of a slice -/
theorem q_slice {t el : TypeId} {x : Operand} {y z : Option Operand} {a : Option Addr} {n c sz : Nat} {lo hi : Int} (ht : P.underlying t = some (.slice el)) (hsz : ∀ w, (sizeOf el).run P w = .ok sz w)
    (hx : ev e x = .slice a n c) (hy : (y.map (ev e)).getD (vint 0) = vint lo) (hz : (z.map (ev e)).getD (vint n) = vint hi) (hr : 0 ≤ lo ∧ lo ≤ hi ∧ hi ≤ n) (hnc : n ≤ c)
    (hw : wantedE ops e ⟨d, .slice t x y z none, ty, pos, af, g⟩ = true)
    : QuietAt P ops e w ⟨d, .slice t x y z none, ty, pos, af, g⟩ ((.slice (if c = lo.toNat then a else a.map (·.add (lo.toNat * sz))) (hi.toNat - lo.toNat) (c - lo.toNat))) := by
  refine .inl ⟨hw, rfl, ?_⟩
  have h3 : 0 ≤ hi ∧ hi ≤ (c : Int) := by omega
  have h4 : 0 ≤ lo ∧ lo ≤ ((hi.toNat : Nat) : Int) := by omega
  cases y with
  | none =>
    simp at hy
    subst hy
    cases z with
    | none =>
      simp at hz
      subst hz
      simp [execOp, hx, Instr.sliceAt, Instr.slice, Instr.sliceBounds, run_underlying ht, hsz]
    | some z =>
      simp at hz
      simp [execOp, hx, hz, Instr.sliceAt, Instr.slice, Instr.sliceBounds, Instr.sliceBound, asIntOf, run_underlying ht, hsz, h3]
  | some y =>
    simp at hy
    cases z with
    | none =>
      simp at hz
      subst hz
      have h6 : lo ≤ (n : Int) := by omega
      simp [execOp, hx, hy, Instr.sliceAt, Instr.slice, Instr.sliceBounds, Instr.sliceBound, asIntOf, run_underlying ht, hsz, hr, h6]
    | some z =>
      simp at hz
      simp [execOp, hx, hy, hz, Instr.sliceAt, Instr.slice, Instr.sliceBounds, Instr.sliceBound, asIntOf, run_underlying ht, hsz, h3, h4]
      intro hh; omega

/-- []T{..}: the cells by the model's own function -/
theorem o_buildSlice {K : Value → World → Prop} {t el : TypeId} {n sz bytes : Nat} {z : Value} {ps : Array (Nat × Operand)} {cs : List Value} (ht : P.underlying t = some (.slice el)) (he : Elem P el z sz bytes) (hsm : n * sz ≤ 16777216)
    (hf : Instr.fill (fun i => some (i * sz, sz)) ((Array.range (n * sz)).map (z.cells[· % z.cells.size]!)) (ps.toList.map fun p => (p.1, ev e p.2)) = some ⟨cs⟩) (hcl : cs.length = n * sz)
    (hml : n ≤ maxLen)
    (hw : wantedE ops e ⟨d, .buildSlice t n ps, ty, pos, af, g⟩ = true)
    (h : ∀ b w', w.heap.size ≤ b → b < w'.heap.size → w.heap.size ≤ w'.heap.size → Blk w' b cs → Ext w w' → w'.ownsRow w.heap.size el sz (.slice (some ⟨b, 0, none⟩) n n) n cs →
      K ((.slice (some ⟨b, 0, none⟩) n n)) w') : EffAt P ops e w ⟨d, .buildSlice t n ps, ty, pos, af, g⟩ K := by
  refine e_value (w' := w.alloc (.cells ⟨cs⟩ el)) hw rfl ?_ (h w.heap.size _ (Nat.le_refl _) (by simp) (by simp) (blk_new w cs el) (World.grownBy_alloc w _ none) (World.ownsRow_lit w ⟨cs⟩ n (Nat.le_refl _) hml hcl))
  have hs : ¬ (16777216 < n * sz) := by omega
  by_cases h0 : n * sz = 0
  · have he0 : (Array.range (n * sz)).map (z.cells[· % z.cells.size]!) = #[] := by rw [h0]; simp [Array.range_zero']
    rw [he0] at hf
    simp only [execOp, Instr.buildSlice, Sem.run_bind, run_underlying ht, Result.andThen_ok, he.size, Sem.run_ite, h0]
    simp [Array.range_zero', hf, newRow]
  · simp only [execOp, Instr.buildSlice, Sem.run_bind, run_underlying ht, Result.andThen_ok, he.size, Sem.run_ite, h0]
    simp [hs, he.zero, hf, newRow]

/-- make([]T, n) -/
theorem o_makeSlice {K : Value → World → Prop} {t el : TypeId} {x y : Operand} {n sz bytes : Nat} {z : Value} (ht : P.underlying t = some (.slice el)) (he : Elem P el z sz bytes)
    (hx : ev e x = vint n) (hy : ev e y = vint n) (hb : bytes * n ≤ 281474976710656) (hml : n ≤ maxLen)
    (hw : wantedE ops e ⟨d, .makeSlice t x y, ty, pos, af, g⟩ = true)
    (h : ∀ b w', w.heap.size ≤ b → b < w'.heap.size → w.heap.size ≤ w'.heap.size → Blk w' b (madeCells z.cells (n * sz)).toList → Ext w w' → w'.ownsRow w.heap.size el sz (.slice (some ⟨b, 0, none⟩) n n) n (madeCells z.cells (n * sz)).toList →
      K ((.slice (some ⟨b, 0, none⟩) n n)) w') : EffAt P ops e w ⟨d, .makeSlice t x y, ty, pos, af, g⟩ K := by
  obtain ⟨i, hi, hz, hs, hby⟩ := he.info
  have hn : (n : Int) ≤ 9223372036854775807 := by have := hml; simp only [maxLen] at this; omega
  have hbi : (i.bytes : Int) * (n : Int) ≤ 281474976710656 := by
    rw [hby]
    have h : ((bytes * n : Nat) : Int) ≤ 281474976710656 := by omega
    rwa [Int.natCast_mul] at h
  have hr := run_make (P := P) w t el i z ht hi hz .i64 .i64 n n (by omega) (Int.le_refl _) hbi hn
  simp only [Int.toNat_natCast, hs] at hr
  refine e_value hw rfl (by simp [execOp, hx, hy, hr]) (h w.heap.size _ (Nat.le_refl _) (by simp) (by simp) ⟨el, ?_⟩ (World.grownBy_alloc w _ none) (World.ownsRow_lit w _ n (Nat.le_refl _) hml (size_madeCells _ _)))
  exact heap_alloc_new w _

/-- append(s, x...) where s is nil or of the call's own -/
theorem o_append {K : Value → World → Prop} {t el : TypeId} {at_ : Array TypeId} {x y : Operand} {z : Value} {sz bytes base : Nat} {a a2 : Option Addr} {n c m c2 : Nat} {xs news : List Value} (ht : P.underlying t = some (.slice el)) (he : Elem P el z sz bytes) (hat : at_ = #[t, t])
    (hx : ev e x = .slice a n c) (hown : w.ownsRow base el sz (.slice a n c) n xs) (hy : ev e y = .slice a2 m c2) (hrow : Row w a2 m c2 sz news) (h1 : news.all Value.oneCell' = true)
    (h63 : n + m ≤ maxLen) (hbytes : (n + m) * bytes ≤ 140737488355328) (hbase : base ≤ w.heap.size)
    (hw : wantedE ops e ⟨d, .call ⟨.builtin .append, #[x, y], at_⟩, ty, pos, af, g⟩ = true)
    (h : ∀ a' c' w', w.heap.size ≤ w'.heap.size → w'.ownsRow base el sz (.slice a' (n + m) c') (n + m) (xs ++ news) → w.grownBy w' (Value.ownBlock (.slice a n c)) →
      K ((.slice a' (n + m) c')) w') : EffAt P ops e w ⟨d, .call ⟨.builtin .append, #[x, y], at_⟩, ty, pos, af, g⟩ K := by
  subst hat
  obtain ⟨i, hi, hz, hs, hby⟩ := he.info
  rcases hrow.2.2 with h0 | ⟨b, o, ha, hc⟩
  · subst h0
    have hm : m = 0 := by
      have h := hrow.1
      rw [List.length_nil] at h
      rcases Nat.mul_eq_zero.1 h.symm with h | h
      · exact h
      · have := he.pos; omega
    subst hm
    have hr : (Builtin.append_ #[t, t] ty #[.slice a n c, .slice a2 0 c2]).run P w = .ok (.slice a n c) w := by
      have hnc : n ≤ c := by
        rcases hown.2 with ⟨h', h0⟩ | ⟨g, cap, cur, h', _, _, hn, _⟩
        · omega
        · cases h'; exact hn
      cases a <;> cases a2 <;> simp [Builtin.append_, run_underlying ht, sizeOf, typeInfo, hi, Builtin.lenOf, Builtin.firstCells, loadCells, loadCellsFrom, hnc, storeCells]
    refine e_value (v := .slice a n c) (w' := w) hw rfl ?_ (h a c w (Nat.le_refl _) (by simpa using hown) ⟨rfl, rfl, rfl, Nat.le_refl _, fun _ _ _ => rfl⟩)
    simp [execOp, resolve, invoke, builtin, hx, hy, hr]
  · subst ha
    obtain ⟨v', w', hr, h2, h3, _⟩ := run_append_own (P := P) w base t ty el i z sz bytes ht hi hz hs hby he.zs he.pos (.slice a n c) n xs hown ⟨b, o, none⟩ m c2 news hrow.1
      (fun j u hj => by rw [Addr.add_lit]; exact hc j u hj) (fun u hu => List.all_eq_true.1 h1 u hu) h63 hbytes hbase
    obtain ⟨a', c', rfl⟩ := owns_slice h2
    refine e_value (v := .slice a' (n + m) c') (w' := w') hw rfl ?_ (h a' c' w' h3.size h2 h3)
    simp [execOp, resolve, invoke, builtin, hx, hy, hr]

end
end Go.Gv
