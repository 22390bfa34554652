/- Marks of range-over-func loops, any number; equality of structs of two strings. Conditions: none. -/
import Derived.Test.YtkcbgpilfegofaaGvApp
set_option linter.unusedVariables false
set_option linter.unusedSimpArgs false
namespace Go.Gv
open Go Go.RowKit

def Marks (B : Nat) (D : List Deferred) (w : World) : Prop := ∃ ds : List Nat, D = ds.map marked ∧ ds.Nodup ∧ ∀ d ∈ ds, B ≤ d ∧ w.heap[d]? = some (.deferred (some []))
theorem Marks.nil (B : Nat) (w : World) : Marks B [] w := ⟨[], rfl, List.nodup_nil, fun _ h => by simp at h⟩
theorem Marks.keep {B : Nat} {D : List Deferred} {w w' : World} (h : Marks B D w) (hk : ∀ d : Nat, w.heap[d]? = some (Obj.deferred (some [])) → w'.heap[d]? = w.heap[d]?) : Marks B D w' := by
  obtain ⟨ds, h1, h2, h3⟩ := h
  exact ⟨ds, h1, h2, fun d hd => ⟨(h3 d hd).1, (hk d (h3 d hd).2).trans (h3 d hd).2⟩⟩
theorem Marks.ext {B : Nat} {D : List Deferred} {w w' : World} (h : Marks B D w) (hg : Ext w w') : Marks B D w' := h.keep fun d hd => hg.block d (heap_lt hd) (by simp)
theorem Marks.updO {B b : Nat} {D : List Deferred} {w w' : World} (h : Marks B D w) (hg : w.grownBy w' (some b)) {o : Obj} (ho : w.heap[b]? = some o) (hn : ∀ x, o ≠ Obj.deferred x) : Marks B D w' :=
  h.keep fun d hd => hg.block d (heap_lt hd) (fun he => by cases he; rw [ho] at hd; cases hd; exact hn _ rfl)
theorem Marks.upd {B b : Nat} {D : List Deferred} {w w' : World} {cs : List Value} (h : Marks B D w) (hg : w.grownBy w' (some b)) (hb : Blk w b cs) : Marks B D w' := by
  obtain ⟨T, hb⟩ := hb
  exact h.updO hg hb (fun x hx => by cases hx)
theorem Marks.updM {B m clock : Nat} {es : List MapEntry} {D : List Deferred} {w w' : World} (h : Marks B D w) (hg : w.grownBy w' (some m)) (hb : MapAt w m es clock) : Marks B D w' :=
  h.updO hg (show w.heap[m]? = _ from hb) (fun x hx => by cases hx)
theorem Marks.updL {B l n : Nat} {D : List Deferred} {w w' : World} {s : LoopState} {p : Option Code} {f : FuncId} {e : Env} {ps : List Tmp} {x y : Code} (h : Marks B D w) (hg : w.grownBy w' (some l)) (hb : LoopAt w l s p f n e ps x y) : Marks B D w' := by
  obtain ⟨t, db, h1, _⟩ := hb
  exact h.updO hg h1 (fun x hx => by cases hx)
theorem Marks.own {B base e size n : Nat} {D : List Deferred} {w w' : World} {v : Value} {xs : List Value} (h : Marks B D w) (hg : w.grownBy w' v.ownBlock) (ho : w.ownsRow base e size v n xs) : Marks B D w' := by
  rcases ho.2 with ⟨rfl, _⟩ | ⟨g, cap, cur, rfl, _, hb, _⟩
  · exact h.keep fun d hd => hg.block d (heap_lt hd) (by simp [Value.ownBlock])
  · exact h.updO hg hb (fun x hx => by cases hx)
theorem Marks.cons {B d : Nat} {D : List Deferred} {w : World} (h : Marks B D w) (hd : w.heap[d]? = some (.deferred (some []))) (hB : B ≤ d) (hn : marked d ∉ D) : Marks B (marked d :: D) w := by
  obtain ⟨ds, h1, h2, h3⟩ := h
  refine ⟨d :: ds, by rw [h1]; rfl, List.nodup_cons.2 ⟨fun hx => hn (by rw [h1]; exact List.mem_map.2 ⟨d, hx, rfl⟩), h2⟩, fun x hx => ?_⟩
  rcases List.mem_cons.1 hx with rfl | hx
  · exact ⟨hB, hd⟩
  · exact h3 x hx
theorem Marks.lt {B d : Nat} {D : List Deferred} {w : World} (h : Marks B D w) (hd : w.heap.size ≤ d) : marked d ∉ D := by
  obtain ⟨ds, h1, h2, h3⟩ := h
  intro hx
  rw [h1] at hx
  obtain ⟨d', hd', he⟩ := List.mem_map.1 hx
  have : d' = d := by
    have := congrArg (fun x : Deferred => x.target) he
    simpa [marked] using this
  subst this
  have := heap_lt (h3 d' hd').2
  omega
/-- all marks are taken -/
theorem unw_many {B : Nat} {D : List Deferred} {w : World} (h : Marks B D w) : ∃ w', Unw w D w' ∧ w'.heap.size = w.heap.size ∧ FrS (fun k => B ≤ k ∧ w.heap[k]? = some (.deferred (some []))) w w' := by
  obtain ⟨ds, rfl, h2, h3⟩ := h
  induction ds generalizing w with
  | nil => exact ⟨w, .nil w, rfl, FrS.refl _ _⟩
  | cons d ds ih =>
    have hd := h3 d (by simp)
    obtain ⟨hnd, h2⟩ := List.nodup_cons.1 h2
    have hkeep : ∀ x ∈ ds, B ≤ x ∧ ({ w with heap := w.heap.setIfInBounds d (.deferred none) } : World).heap[x]? = some (.deferred (some [])) := fun x hx => by
      refine ⟨(h3 x (by simp [hx])).1, ?_⟩
      simp only
      rw [Array.getElem?_setIfInBounds_ne (show d ≠ x from fun he => hnd (by rw [he]; exact hx))]
      exact (h3 x (by simp [hx])).2
    obtain ⟨w', hU, hz, hF⟩ := ih h2 hkeep
    refine ⟨w', .cons hd.2 hU, by rw [hz]; simp, ⟨hF.os, hF.tape, hF.output, by rw [hz]; simp, fun k hk hn => ?_⟩⟩
    have hne : d ≠ k := fun he => hn (by rw [← he]; exact hd)
    have hk2 : ({ w with heap := w.heap.setIfInBounds d (.deferred none) } : World).heap[k]? = w.heap[k]? := by
      simp only
      rw [Array.getElem?_setIfInBounds_ne hne]
    rw [hF.keep k (by simpa using hk) (fun hx => hn ⟨hx.1, hk2.symm.trans hx.2⟩), hk2]
theorem Blk.unw {B : Nat} {w w' : World} {b : Nat} {cs : List Value} (h : Blk w b cs) (hF : FrS (fun k => B ≤ k ∧ w.heap[k]? = some (.deferred (some []))) w w') : Blk w' b cs :=
  h.frS hF (fun hx => by obtain ⟨T, h⟩ := h; rw [h] at hx; cases hx.2)
theorem own_unw {B base e size n : Nat} {w w' : World} {v : Value} {xs : List Value} (h : w.ownsRow base e size v n xs) (hF : FrS (fun k => B ≤ k ∧ w.heap[k]? = some (.deferred (some []))) w w') : w'.ownsRow base e size v n xs := by
  rcases h.2 with ⟨rfl, _⟩ | ⟨g, cap, cur, rfl, _, hb, _⟩
  · exact own_keepB h (fun g hg => by cases hg)
  · exact own_frS h hF (fun g' hg' hx => by cases hg'; rw [show w.heap[g]? = _ from hb] at hx; cases hx.2)
theorem below_unw {B : Nat} {w0 w w' : World} (h : Below B w0 w) (hB : B ≤ w.heap.size) (hF : FrS (fun k => B ≤ k ∧ w.heap[k]? = some (.deferred (some []))) w w') : Below B w0 w' :=
  hF.below h hB (fun _ hk => hk.1)
theorem own_updne {w w' : World} {base e size n b : Nat} {v : Value} {xs : List Value} (h : w.ownsRow base e size v n xs) (hg : w.grownBy w' (some b)) (hb : ∀ g, v.ownBlock = some g → g ≠ b) : w'.ownsRow base e size v n xs :=
  own_keepB h fun g hg' => hg.block g (h.lt g hg').2 (fun he => hb g hg' (by cases he; rfl))

section
variable {P : Program} {ops : Array Oper} {e : Env} {w : World}
variable {d : Option Nat} {ty : TypeId} {pos : String} {af : Array Edge} {g : Option (Nat × Bool)}
theorem q_eql_pair {t yt st : TypeId} {x y : Operand} {f1 f2 : Field} {a b c d' : List UInt8} (ht : P.underlying t = some (.struct #[f1, f2])) (h1 : f1.name ≠ "_" ∧ f1.type = st ∧ f1.offset = 0) (h2 : f2.name ≠ "_" ∧ f2.type = st ∧ f2.offset = 1)
    (hst : P.underlying st = some .string) (ha : ∀ w, (isAgg st).run P w = .ok false w) (hso : P.stoodInHeld t = false) (hm : P.eqGuardType P.depth t = false) (hx : ev e x = .agg ⟨[vstr a, vstr b]⟩) (hy : ev e y = .agg ⟨[vstr c, vstr d']⟩)
    (hw : wantedE ops e ⟨d, .binOp .eql t x y yt, ty, pos, af, g⟩ = true) : QuietAt P ops e w ⟨d, .binOp .eql t x y yt, ty, pos, af, g⟩ (.bool (decide (a = c) && decide (b = d'))) := by
  refine .inl ⟨hw, rfl, ?_⟩
  have h : (Op.equalIn 10000 t (.agg ⟨[vstr a, vstr b]⟩) (.agg ⟨[vstr c, vstr d']⟩)).run P w = .ok (decide (a = c) && decide (b = d')) w := run_equal_pair (w := w) (a := a) (b := b) (c := c) (d := d') ht h1 h2 hst ha hso
  simp only [execOp, hx, hy, Sem.run_bind, run_eqGuard_agg w _ _ _ _ _ _ hm, Result.andThen_ok, run_eql_struct, h]
  rfl
theorem q_neq_pair {t yt st : TypeId} {x y : Operand} {f1 f2 : Field} {a b c d' : List UInt8} (ht : P.underlying t = some (.struct #[f1, f2])) (h1 : f1.name ≠ "_" ∧ f1.type = st ∧ f1.offset = 0) (h2 : f2.name ≠ "_" ∧ f2.type = st ∧ f2.offset = 1)
    (hst : P.underlying st = some .string) (ha : ∀ w, (isAgg st).run P w = .ok false w) (hso : P.stoodInHeld t = false) (hm : P.eqGuardType P.depth t = false) (hx : ev e x = .agg ⟨[vstr a, vstr b]⟩) (hy : ev e y = .agg ⟨[vstr c, vstr d']⟩)
    (hw : wantedE ops e ⟨d, .binOp .neq t x y yt, ty, pos, af, g⟩ = true) : QuietAt P ops e w ⟨d, .binOp .neq t x y yt, ty, pos, af, g⟩ (.bool (!(decide (a = c) && decide (b = d')))) := by
  refine .inl ⟨hw, rfl, ?_⟩
  have h : (Op.equalIn 10000 t (.agg ⟨[vstr a, vstr b]⟩) (.agg ⟨[vstr c, vstr d']⟩)).run P w = .ok (decide (a = c) && decide (b = d')) w := run_equal_pair (w := w) (a := a) (b := b) (c := c) (d := d') ht h1 h2 hst ha hso
  simp only [execOp, hx, hy, Sem.run_bind, run_eqGuard_agg w _ _ _ _ _ _ hm, Result.andThen_ok, run_neq_struct, h]
  rfl
end
end Go.Gv
