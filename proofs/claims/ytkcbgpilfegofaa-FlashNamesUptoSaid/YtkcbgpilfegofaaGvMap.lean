/- Maps: a lookup, an update, a new one; keys that are structs of two strings. Conditions: none. -/
import Derived.Test.YtkcbgpilfegofaaGvFor
import Derived.Carry
import Derived.Laws.StructEq
set_option linter.unusedVariables false
set_option linter.unusedSimpArgs false
namespace Go.Gv
open Go Go.RowKit

theorem part_cell {P : Program} {w : World} {t : TypeId} {cs : Array Value} {off : Nat} {v : Value} (ha : ∀ w, (isAgg t).run P w = .ok false w) (hv : cs[off]? = some v) : (part t cs off).run P w = .ok v w := by
  simp [part, ha, hv]

section
variable {P : Program}
theorem run_equalIn_str {w : World} {d : Nat} {t : TypeId} {a b : List UInt8} (ht : P.underlying t = some .string) : (Op.equalIn (d + 1) t (vstr a) (vstr b)).run P w = .ok (decide (a = b)) w := by
  have : ((⟨⟨a⟩⟩ : ByteArray) == ⟨⟨b⟩⟩) = decide (a = b) := by
    rw [beq_toListBytes, toList_mk, toList_mk, beq_list]
  simp [Op.equalIn, run_underlying ht, this]

theorem run_equal_pair {w : World} {t st : TypeId} {f1 f2 : Field} {a b c d : List UInt8} (ht : P.underlying t = some (.struct #[f1, f2])) (h1 : f1.name ≠ "_" ∧ f1.type = st ∧ f1.offset = 0) (h2 : f2.name ≠ "_" ∧ f2.type = st ∧ f2.offset = 1)
    (hst : P.underlying st = some .string) (ha : ∀ w, (isAgg st).run P w = .ok false w) (hso : P.stoodInHeld t = false) :
    (Op.equal t (.agg ⟨[vstr a, vstr b]⟩) (.agg ⟨[vstr c, vstr d]⟩)).run P w = .ok (decide (a = c) && decide (b = d)) w := by
  obtain ⟨hn1, ht1, ho1⟩ := h1
  obtain ⟨hn2, ht2, ho2⟩ := h2
  have hp : ∀ x y : Value, (part st ⟨[x, y]⟩ 0).run P w = .ok x w := fun x y => part_cell ha rfl
  have hq : ∀ x y : Value, (part st ⟨[x, y]⟩ 1).run P w = .ok y w := fun x y => part_cell ha rfl
  have he : ∀ x y : List UInt8, (Op.equalIn 9999 st (vstr x) (vstr y)).run P w = .ok (decide (x = y)) w := fun x y => run_equalIn_str (d := 9998) hst
  unfold Op.equal Op.maxDepth Op.equalIn
  simp only [Sem.run_bind, run_underlying ht, Result.andThen_ok]
  have hpr : (program).run P w = .ok P w := rfl
  simp only [Sem.run_bind, hpr, Result.andThen_ok, hso, Bool.false_eq_true, if_false]
  by_cases h1 : a = c <;> by_cases h2 : b = d <;> simp [forIn, ForIn.forIn, hn1, hn2, ht1, ht2, ho1, ho2, hp, hq, he, h1, h2]

theorem run_checkKey_pair {w : World} {n : Nat} {em : Bool} {t st : TypeId} {f1 f2 : Field} {a b : List UInt8} (ht : P.underlying t = some (.struct #[f1, f2])) (h1 : f1.name ≠ "_" ∧ f1.type = st ∧ f1.offset = 0) (h2 : f2.name ≠ "_" ∧ f2.type = st ∧ f2.offset = 1)
    (hst : P.underlying st = some .string) (ha : ∀ w, (isAgg st).run P w = .ok false w) : (Instr.checkKey em (n + 2) t (.agg ⟨[vstr a, vstr b]⟩)).run P w = .ok () w := by
  obtain ⟨hn1, ht1, ho1⟩ := h1
  obtain ⟨hn2, ht2, ho2⟩ := h2
  have hp : ∀ x y : Value, (part st ⟨[x, y]⟩ 0).run P w = .ok x w := fun x y => part_cell ha rfl
  have hq : ∀ x y : Value, (part st ⟨[x, y]⟩ 1).run P w = .ok y w := fun x y => part_cell ha rfl
  have hc : ∀ x : List UInt8, (Instr.checkKey em (n + 1) st (vstr x)).run P w = .ok () w := fun x => by
    simp [Instr.checkKey, run_underlying hst]
  rw [Instr.checkKey]
  simp only [Sem.run_bind, run_underlying ht, Result.andThen_ok]
  simp only [List.forIn_toArray, List.forIn_cons, List.forIn_nil, Sem.run_bind, ht1, ht2, ho1, ho2, hn1, hn2, hp, hq, hc, ne_eq, not_false_eq_true, if_true, Result.andThen_ok, Sem.run_pure]

def MapAt (w : World) (m : Nat) (es : List MapEntry) (clock : Nat) : Prop := w.heap[m]? = some (.map es.toArray clock)
def Asks (P : Program) (kt : TypeId) (kv : Value) (es : List MapEntry) : Prop := ∀ e ∈ es, ∃ b, (∀ w, (Op.equal kt kv e.key).run P w = .ok b w) ∧ (b = true ↔ kv = e.key)

theorem find_asking {kt : TypeId} {kv : Value} : ∀ (es : List MapEntry) (i : Nat), Asks P kt kv es →
    ∃ r : Option (Nat × Value), (∀ w, (Instr.findAsking kt kv es i).run P w = .ok r w) ∧ (∀ j v, r = some (j, v) → i ≤ j ∧ ∃ e, es[j - i]? = some e ∧ e.key = kv ∧ e.val = v) ∧ (r = none → ∀ e ∈ es, e.key ≠ kv)
  | [], i, _ => ⟨none, (fun w => rfl), (fun j v h => by cases h), (fun _ e he => by simp at he)⟩
  | e :: es, i, h => by
    obtain ⟨b, hb, hbe⟩ := h e (by simp)
    obtain ⟨r, hr, h1, h2⟩ := find_asking es (i + 1) (fun x hx => h x (by simp [hx]))
    cases b with
    | true =>
      refine ⟨some (i, e.val), fun w => by simp [Instr.findAsking, hb], fun j v hj => ?_, fun h => by cases h⟩
      cases hj
      exact ⟨Nat.le_refl _, e, by simp, (hbe.1 rfl).symm, rfl⟩
    | false =>
      refine ⟨r, fun w => by simp [Instr.findAsking, hb, hr], fun j v hj => ?_, fun hn x hx => ?_⟩
      · obtain ⟨h3, x, h4, h5⟩ := h1 j v hj
        refine ⟨by omega, x, ?_, h5⟩
        have : j - i = (j - (i + 1)) + 1 := by omega
        rw [this]; exact h4
      · rcases List.mem_cons.1 hx with rfl | hx
        · intro he; exact absurd (hbe.2 he.symm) (by simp)
        · exact h2 hn x hx
theorem find_key {kt : TypeId} {kv : Value} {fs : Array Field} (hk : P.underlying kt = some (.struct fs)) (es : List MapEntry) (h : Asks P kt kv es) :
    ∃ r : Option (Nat × Value), (∀ w, (Instr.findKey kt kv es).run P w = .ok r w) ∧ (∀ j v, r = some (j, v) → ∃ e, es[j]? = some e ∧ e.key = kv ∧ e.val = v) ∧ (r = none → ∀ e ∈ es, e.key ≠ kv) := by
  obtain ⟨r, hr, h1, h2⟩ := find_asking es 0 h
  refine ⟨r, fun w => ?_, fun j v hj => by obtain ⟨_, e, h3⟩ := h1 j v hj; exact ⟨e, h3⟩, h2⟩
  cases es with
  | nil =>
    have := hr w
    simp [Instr.findAsking] at this
    simp [Instr.findKey, run_underlying hk, Instr.findNow, this]
  | cons e es =>
    have hn : Instr.findNow (.struct fs) kv (e :: es) 0 = none := by simp [Instr.findNow, Instr.sameNow]
    simp only [Instr.findKey, Sem.run_bind, run_underlying hk, Result.andThen_ok, hn, hr]

section
variable {ops : Array Oper} {e : Env} {w : World}
variable {d : Option Nat} {ty : TypeId} {pos : String} {af : Array Edge} {g : Option (Nat × Bool)}
theorem q_lookup {t kt el : TypeId} {fs : Array Field} {x y : Operand} {m clock : Nat} {es : List MapEntry} {kv z : Value} (ht : P.underlying t = some (.map kt el)) (hk : P.underlying kt = some (.struct fs)) (hz : ∀ w, (zeroValue el).run P w = .ok z w)
    (hx : ev e x = .map (some m)) (hy : ev e y = kv) (hm : MapAt w m es clock) (hck : ∀ em w, (Instr.checkKey em 10000 kt kv).run P w = .ok () w) (ha : Asks P kt kv es)
    (hw : wantedE ops e ⟨d, .lookup t x y true, ty, pos, af, g⟩ = true) :
    ∃ v ok, QuietAt P ops e w ⟨d, .lookup t x y true, ty, pos, af, g⟩ (.tuple ⟨[v, .bool ok]⟩) ∧ (ok = true → ∃ en ∈ es, en.key = kv ∧ en.val = v) ∧ (ok = false → v = z ∧ ∀ en ∈ es, en.key ≠ kv) := by
  obtain ⟨r, hr, h1, h2⟩ := find_key hk es ha
  have hg : (getObj m).run P w = .ok (.map es.toArray clock) w := by
    have hm' : w.heap[m]? = some (.map es.toArray clock) := hm
    simp [getObj, Sem.run, hm']
  cases r with
  | none =>
    refine ⟨z, false, .inl ⟨hw, rfl, ?_⟩, (fun h => by cases h), fun _ => ⟨rfl, h2 rfl⟩⟩
    simp [execOp, Instr.lookup, run_underlying ht, hx, hy, hg, hck, hr, hz]
  | some p =>
    obtain ⟨j, v⟩ := p
    obtain ⟨en, h3, h4, h5⟩ := h1 j v rfl
    refine ⟨v, true, .inl ⟨hw, rfl, ?_⟩, (fun _ => ⟨en, List.mem_of_getElem? h3, h4, h5⟩), fun h => by cases h⟩
    simp [execOp, Instr.lookup, run_underlying ht, hx, hy, hg, hck, hr]

theorem o_makeMap {K : Value → World → Prop} {t : TypeId} (hw : wantedE ops e ⟨d, .makeMap t none, ty, pos, af, g⟩ = true)
    (h : ∀ m w', w.heap.size ≤ m → m < w'.heap.size → MapAt w' m [] 0 → Ext w w' → K (.map (some m)) w') : EffAt P ops e w ⟨d, .makeMap t none, ty, pos, af, g⟩ K := by
  have hr : (Instr.makeMap t none).run P w = .ok (.map (some w.heap.size)) (w.alloc (.map #[] 0)) := rfl
  exact e_value hw rfl (by simp [execOp, hr]) (h w.heap.size _ (Nat.le_refl _) (by simp [World.size_alloc]) (heap_alloc_new w _) ⟨rfl, rfl, rfl, by simp [World.size_alloc], fun k hk _ => Below.heap_alloc w _ k hk⟩)

theorem o_mapUpdate {K : Value → World → Prop} {t kt el : TypeId} {fs : Array Field} {x y z : Operand} {m clock : Nat} {es : List MapEntry} {kv v : Value} (ht : P.underlying t = some (.map kt el)) (hk : P.underlying kt = some (.struct fs))
    (hx : ev e x = .map (some m)) (hy : ev e y = kv) (hv : ev e z = v) (hm : MapAt w m es clock) (hck : ∀ em w, (Instr.checkKey em 10000 kt kv).run P w = .ok () w) (ha : Asks P kt kv es) (hsb : Instr.sameBits 10000 kv kv = true)
    (hw : wantedE ops e ⟨d, .mapUpdate t x y z, ty, pos, af, g⟩ = true)
    (h : ∀ es' clock' w', w'.heap.size = w.heap.size → MapAt w' m es' clock' → w.grownBy w' (some m) → (∀ en ∈ es', (en ∈ es) ∨ (en.key = kv ∧ en.val = v)) → K undef w') :
    EffAt P ops e w ⟨d, .mapUpdate t x y z, ty, pos, af, g⟩ K := by
  obtain ⟨r, hr, h1, h2⟩ := find_key hk es ha
  have hm' : w.heap[m]? = some (.map es.toArray clock) := hm
  have hlt : m < w.heap.size := (Array.getElem?_eq_some_iff.1 hm').1
  have hg : (getObj m).run P w = .ok (.map es.toArray clock) w := by simp [getObj, Sem.run, hm']
  have hs : ∀ o, (setObj m o).run P w = .ok () (w.putObj m o) := fun o => by simp [setObj, Sem.run, hm', World.putObj]
  cases r with
  | none =>
    refine e_done (w' := w.putObj m (.map (es.toArray.push { key := kv, val := v, born := clock }) (clock + 1))) hw rfl (by simp [execOp, Instr.mapUpdate, run_underlying ht, hx, hy, hv, hg, hck, hr, hs]) ?_
    refine h (es ++ [{ key := kv, val := v, born := clock }]) (clock + 1) _ (by simp [World.putObj]) ?_ (grownBy_putObj _ _ _) ?_
    · unfold MapAt; rw [putObj_self hlt]; simp
    · intro en hen
      rcases List.mem_append.1 hen with hen | hen
      · exact .inl hen
      · right; have : en = { key := kv, val := v, born := clock } := by simpa using hen
        rw [this]; exact ⟨rfl, rfl⟩
  | some p =>
    obtain ⟨j, v0⟩ := p
    obtain ⟨en, h3, h4, h5⟩ := h1 j v0 rfl
    have hj : (es.toArray[j]?).map (·.key) = some kv := by rw [List.getElem?_toArray, h3]; simp [h4]
    refine e_done (w' := w.putObj m (.map (es.toArray.modify j fun e => { e with key := kv, val := v }) clock)) hw rfl (by
      simp [execOp, Instr.mapUpdate, run_underlying ht, hx, hy, hv, hg, hck, hr, hs, Instr.keyThatStays, h3, h4, hsb]) ?_
    refine h (es.modify j fun e => { e with key := kv, val := v }) clock _ (by simp [World.putObj]) ?_ (grownBy_putObj _ _ _) ?_
    · unfold MapAt; rw [putObj_self hlt]; simp
    · intro e2 hen
      obtain ⟨i, hi, rfl⟩ := List.mem_iff_getElem.1 hen
      rw [List.getElem_modify]
      split
      · exact .inr ⟨rfl, rfl⟩
      · exact .inl (List.getElem_mem _)
end
theorem sameBits_pair (a b : List UInt8) : Instr.sameBits 10000 (.agg ⟨[vstr a, vstr b]⟩) (.agg ⟨[vstr a, vstr b]⟩) = true := by
  have : ∀ (n : Nat) (x : List UInt8), Instr.sameBits n (vstr x) (vstr x) = true := fun n x => by
    cases n <;> simp [Instr.sameBits, beq_toListBytes]
  simp [Instr.sameBits, beq_toListBytes]
end
end Go.Gv
