/- Slices of lists: a part, and an append, by lists. Conditions: none. -/
import Derived.Test.YtkcbgpilfegofaaGvMore
set_option linter.unusedVariables false
set_option linter.unusedSimpArgs false
namespace Go.Gv
open Go Go.RowKit

theorem QuietAt.cast {P : Program} {ops : Array Oper} {e : Env} {w : World} {o : Oper} {v v' : Value} (h : QuietAt P ops e w o v) (hv : v = v') : QuietAt P ops e w o v' := hv ▸ h

theorem slice_ex {α : Type} {f : α → Value} {xs : List α} {w : World} {a : Option Addr} {n c : Nat} (lo hi : Int) (h : Row w a n c 1 (xs.map f)) (h1 : 0 ≤ lo ∧ lo ≤ hi ∧ hi ≤ n) :
    ∃ a' c', Row w a' (((xs.take hi.toNat).drop lo.toNat)).length c' 1 (((xs.take hi.toNat).drop lo.toNat).map f) ∧
      Value.slice (if c = lo.toNat then a else a.map (·.add (lo.toNat * 1))) (hi.toNat - lo.toNat) (c - lo.toNat) = .slice a' (((xs.take hi.toNat).drop lo.toNat)).length c' := by
  have hn : xs.length = n := by have := h.1; simpa using this
  have hr := row_slice (h.slice (lo := lo.toNat) (hi := hi.toNat) (by omega) (by omega))
  have hl : ((xs.take hi.toNat).drop lo.toNat).length = hi.toNat - lo.toNat := by rw [List.length_drop, List.length_take]; omega
  exact ⟨_, _, by rw [hl]; exact hr, by rw [hl]⟩
theorem slice_ex_hi {α : Type} {f : α → Value} {xs : List α} {w : World} {a : Option Addr} {n c : Nat} (hi : Int) (h : Row w a n c 1 (xs.map f)) (h1 : 0 ≤ hi ∧ hi ≤ n) :
    ∃ a' c', Row w a' (xs.take hi.toNat).length c' 1 ((xs.take hi.toNat).map f) ∧
      Value.slice (if c = (0 : Int).toNat then a else a.map (·.add ((0 : Int).toNat * 1))) (hi.toNat - (0 : Int).toNat) (c - (0 : Int).toNat) = .slice a' (xs.take hi.toNat).length c' := by
  have := slice_ex (f := f) 0 hi h (by omega)
  simpa only [Int.toNat_zero, List.drop_zero] using this
theorem slice_ex_lo {α : Type} {f : α → Value} {xs : List α} {w : World} {a : Option Addr} {n c : Nat} (lo : Int) (h : Row w a n c 1 (xs.map f)) (h1 : 0 ≤ lo ∧ lo ≤ n) :
    ∃ a' c', Row w a' (xs.drop lo.toNat).length c' 1 ((xs.drop lo.toNat).map f) ∧
      Value.slice (if c = lo.toNat then a else a.map (·.add (lo.toNat * 1))) ((n : Int).toNat - lo.toNat) (c - lo.toNat) = .slice a' (xs.drop lo.toNat).length c' := by
  have hn : xs.length = n := by have := h.1; simpa using this
  have := slice_ex (f := f) lo n h (by omega)
  rwa [Int.toNat_natCast, List.take_of_length_le (by omega)] at this

section
variable {P : Program} {ops : Array Oper} {e : Env} {w : World}
variable {d : Option Nat} {ty : TypeId} {pos : String} {af : Array Edge} {g : Option (Nat × Bool)}
theorem o_append_map {α : Type} {f : α → Value} (xs ys : List α) {K : Value → World → Prop} {t el : TypeId} {at_ : Array TypeId} {x y : Operand} {z : Value} {bytes base : Nat} {a a2 : Option Addr} {c c2 : Nat} (ht : P.underlying t = some (.slice el)) (he : Elem P el z 1 bytes) (hat : at_ = #[t, t])
    (hx : ev e x = .slice a xs.length c) (hown : w.ownsRow base el 1 (.slice a xs.length c) xs.length (xs.map f)) (hy : ev e y = .slice a2 ys.length c2) (hrow : Row w a2 ys.length c2 1 (ys.map f)) (h1 : ∀ x, (f x).oneCell' = true)
    (hbytes : xs.length + ys.length ≤ 140737488355328 ∧ (xs.length + ys.length) * bytes ≤ 140737488355328) (hbase : base ≤ w.heap.size)
    (hw : wantedE ops e ⟨d, .call ⟨.builtin .append, #[x, y], at_⟩, ty, pos, af, g⟩ = true)
    (h : ∀ a' c' w', w.heap.size ≤ w'.heap.size → w'.ownsRow base el 1 (.slice a' (xs ++ ys).length c') (xs ++ ys).length ((xs ++ ys).map f) → w.grownBy w' (Value.ownBlock (.slice a xs.length c)) →
      K (.slice a' (xs ++ ys).length c') w') : EffAt P ops e w ⟨d, .call ⟨.builtin .append, #[x, y], at_⟩, ty, pos, af, g⟩ K :=
  o_append ht he hat hx hown hy hrow (all_one_map _ _ h1) (by unfold maxLen; omega) hbytes.2 hbase hw (fun a' c' w' hz ho hG => by
    have := h a' c' w' hz (by rw [List.length_append, List.map_append]; exact ho) hG
    rwa [List.length_append] at this)
end
/-- rows of elements of another type are not touched by what is appended -/
theorem own_other {base base' e e' size size' n n' : Nat} {w : World} {v v' : Value} {xs xs' : List Value} (h : w.ownsRow base e size v n xs) (h' : w.ownsRow base' e' size' v' n' xs') (hne : e ≠ e') : v.ownBlock = none ∨ v.ownBlock ≠ v'.ownBlock := by
  rcases h.2 with ⟨rfl, _⟩ | ⟨g, cap, cur, rfl, _, hg, _⟩
  · exact .inl rfl
  · right
    rcases h'.2 with ⟨rfl, _⟩ | ⟨g', cap', cur', rfl, _, hg', _⟩
    · simp [Value.ownBlock]
    · intro hx
      obtain rfl : g = g' := by simpa [Value.ownBlock] using hx
      have := hg.symm.trans hg'
      simp at this
      exact hne this.2
theorem own_kept {base base' e e' size size' n n' : Nat} {w w' : World} {v v' : Value} {xs xs' : List Value} (h : w.ownsRow base e size v n xs) (h' : w.ownsRow base' e' size' v' n' xs') (hne : e ≠ e') (hG : w.grownBy w' v'.ownBlock) : w'.ownsRow base e size v n xs :=
  h.kept hG (own_other h h' hne)
def OwnsI (w : World) (B el : Nat) (l : List SV) : Prop := ∀ s ∈ l, w.ownsRow B el 1 s.enc s.xs.length (s.xs.map vint)
theorem OwnsI.ext {w w' : World} {B el : Nat} {l : List SV} (h : OwnsI w B el l) (hg : Ext w w') : OwnsI w' B el l := fun s hs => own_ext (h s hs) hg
theorem OwnsI.rows {w : World} {B el : Nat} {l : List SV} (h : OwnsI w B el l) : RowsI w l := fun s hs => Row.of_owns (h s hs)
theorem OwnsI.mono {w : World} {B B' el : Nat} {l : List SV} (h : OwnsI w B el l) (hb : B' ≤ B) : OwnsI w B' el l := fun s hs => own_mono (h s hs) hb
theorem OwnsI.nil (w : World) (B el : Nat) : OwnsI w B el [] := fun _ h => by simp at h
theorem OwnsI.snoc {w : World} {B el : Nat} {l : List SV} {s : SV} (h : OwnsI w B el l) (hs : w.ownsRow B el 1 s.enc s.xs.length (s.xs.map vint)) : OwnsI w B el (l ++ [s]) := fun x hx => by
  rcases List.mem_append.1 hx with h1 | h1
  · exact h x h1
  · have : x = s := by simpa using h1
    subst this; exact hs
theorem OwnsI.kept {w w' : World} {B el base' e' size' n' : Nat} {l : List SV} {v' : Value} {xs' : List Value} (h : OwnsI w B el l) (h' : w.ownsRow base' e' size' v' n' xs') (hne : el ≠ e') (hG : w.grownBy w' v'.ownBlock) : OwnsI w' B el l :=
  fun s hs => own_kept (h s hs) h' hne hG
theorem pureExt {P : Program} {g : FuncId} {args : List Value} {w : World} {x : Value} (h : Ret P g args w (fun v w' => v = x ∧ w = w')) : Ret P g args w (fun v w' => v = x ∧ Ext w w') := h.mono (fun _ _ h => ⟨h.1, h.2 ▸ Ext.refl _⟩)
theorem any_found {α : Type} {l : List α} {d : α} {p : α → Bool} {k : Nat} (hk : k < l.length) (h : p (l.getD k d) = true) : l.any p = true :=
  List.any_eq_true.2 ⟨_, by rw [List.getD_eq_getElem?_getD, List.getElem?_eq_getElem hk]; exact List.getElem_mem hk, h⟩
theorem any_none {α : Type} {l : List α} {d : α} {p : α → Bool} (h : ∀ j, j < l.length → p (l.getD j d) = false) : l.any p = false := by
  rw [List.any_eq_false]
  intro x hx
  obtain ⟨i, hi, rfl⟩ := List.mem_iff_getElem.1 hx
  have := h i hi
  rw [List.getD_eq_getElem?_getD, List.getElem?_eq_getElem hi] at this
  simpa using this
theorem ext_getD {α : Type} {d : α} {xs ys : List α} (hl : xs.length = ys.length) (h : ∀ j, j < xs.length → xs.getD j d = ys.getD j d) : xs = ys := by
  apply List.ext_getElem hl
  intro i h1 h2
  have := h i h1
  rwa [List.getD_eq_getElem?_getD, List.getD_eq_getElem?_getD, List.getElem?_eq_getElem h1, List.getElem?_eq_getElem h2] at this
end Go.Gv
