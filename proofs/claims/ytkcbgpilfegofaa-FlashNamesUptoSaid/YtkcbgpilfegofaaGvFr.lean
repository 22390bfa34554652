/- Frames that keep what lies above a bound: for loops over functions. Conditions: none. -/
import Derived.Test.YtkcbgpilfegofaaGvMap
set_option linter.unusedVariables false
set_option linter.unusedSimpArgs false
namespace Go.Gv
open Go Go.RowKit

/-- what lies at N and above, as far as it is there, is kept -/
structure Fr (N : Nat) (w w' : World) : Prop where
  os : w'.os = w.os
  tape : w'.tape = w.tape
  output : w'.output = w.output
  size : w.heap.size ≤ w'.heap.size
  keep : ∀ k, N ≤ k → k < w.heap.size → w'.heap[k]? = w.heap[k]?
theorem Fr.refl (N : Nat) (w : World) : Fr N w w := ⟨rfl, rfl, rfl, Nat.le_refl _, fun _ _ _ => rfl⟩
theorem Fr.trans {N : Nat} {a b c : World} (h : Fr N a b) (h' : Fr N b c) : Fr N a c :=
  ⟨h'.os.trans h.os, h'.tape.trans h.tape, h'.output.trans h.output, Nat.le_trans h.size h'.size, fun k hk hl => (h'.keep k hk (Nat.lt_of_lt_of_le hl h.size)).trans (h.keep k hk hl)⟩
theorem Fr.of_ext {N : Nat} {w w' : World} (h : Ext w w') : Fr N w w' := ⟨h.os, h.tape, h.output, h.size, fun k _ hl => h.block k hl (by simp)⟩
theorem Fr.of_upd {N j : Nat} {w w' : World} (h : w.grownBy w' (some j)) (hj : j < N) : Fr N w w' := ⟨h.os, h.tape, h.output, h.size, fun k hk hl => h.block k hl (by simp; omega)⟩
theorem Fr.mono {N N' : Nat} {w w' : World} (h : Fr N w w') (hn : N ≤ N') : Fr N' w w' := ⟨h.os, h.tape, h.output, h.size, fun k hk hl => h.keep k (Nat.le_trans hn hk) hl⟩
theorem Blk.keep {w w' : World} {b : Nat} {cs : List Value} (h : Blk w b cs) (hk : w'.heap[b]? = w.heap[b]?) : Blk w' b cs := by
  unfold Blk at *
  first | exact hk.trans h | (obtain ⟨x, hx⟩ := h; exact ⟨x, hk.trans hx⟩) | simpa [hk] using h
theorem Blk.fr {w w' : World} {N b : Nat} {cs : List Value} (h : Blk w b cs) (hF : Fr N w w') (hb : N ≤ b) : Blk w' b cs := h.keep (hF.keep b hb h.lt)
def FrB (N b : Nat) (cs : List Value) (w w' : World) : Prop := Fr N w w' ∧ (Blk w b cs → Blk w' b cs)
theorem FrB.refl' (N b : Nat) (cs : List Value) : ∀ w, FrB N b cs w w := fun w => ⟨Fr.refl N w, fun h => h⟩
theorem FrB.trans' (N b : Nat) (cs : List Value) : ∀ x y z, FrB N b cs x y → FrB N b cs y z → FrB N b cs x z := fun _ _ _ h h' => ⟨h.1.trans h'.1, fun hb => h'.2 (h.2 hb)⟩
theorem below_ext_of {N : Nat} {w w' : World} (h : Ext w w') (hN : N ≤ w.heap.size) : Below N w w' := h.below.mono hN
theorem below_upd_of {N j : Nat} {w w' : World} (h : w.grownBy w' (some j)) (hj : N ≤ j) (hN : N ≤ w.heap.size) : Below N w w' := ⟨h.os, h.tape, h.output, h.size, fun k hk => h.block k (by omega) (by simp; omega)⟩
theorem MapAt.keep {w w' : World} {m : Nat} {es : List MapEntry} {clock : Nat} (h : MapAt w m es clock) (hk : w'.heap[m]? = w.heap[m]?) : MapAt w' m es clock := hk.trans h
theorem MapAt.lt {w : World} {m : Nat} {es : List MapEntry} {clock : Nat} (h : MapAt w m es clock) : m < w.heap.size := (Array.getElem?_eq_some_iff.1 (show w.heap[m]? = _ from h)).1
theorem grown_trans {a b c : World} {x : Option Nat} (h : a.grownBy b x) (h' : b.grownBy c x) : a.grownBy c x :=
  ⟨h'.os.trans h.os, h'.tape.trans h.tape, h'.output.trans h.output, Nat.le_trans h.size h'.size, fun k hk hn => (h'.block k (Nat.lt_of_lt_of_le hk h.size) hn).trans (h.block k hk hn)⟩
theorem gm_ext {a b : World} {m : Nat} (h : Ext a b) : a.grownBy b (some m) := ⟨h.os, h.tape, h.output, h.size, fun k hk _ => h.block k hk (by simp)⟩
theorem gm_refl (m : Nat) : ∀ w : World, w.grownBy w (some m) := fun w => gm_ext (Ext.refl w)
theorem gm_trans (m : Nat) : ∀ a b c : World, a.grownBy b (some m) → b.grownBy c (some m) → a.grownBy c (some m) := fun _ _ _ => grown_trans
theorem gm_upd {a b c : World} {m j : Nat} (h : a.grownBy b (some m)) (h' : b.grownBy c (some j)) (hj : j = m ∨ a.heap.size ≤ j) : a.grownBy c (some m) :=
  ⟨h'.os.trans h.os, h'.tape.trans h.tape, h'.output.trans h.output, Nat.le_trans h.size h'.size, fun k hk hn => (h'.block k (Nat.lt_of_lt_of_le hk h.size) (fun he => by
    cases he; rcases hj with rfl | hj
    · exact hn rfl
    · omega)).trans (h.block k hk hn)⟩
theorem gm_below {a b c : World} {m N : Nat} (h : a.grownBy b (some m)) (h' : Below N b c) (hN : a.heap.size ≤ N) : a.grownBy c (some m) :=
  ⟨h'.os.trans h.os, h'.tape.trans h.tape, h'.output.trans h.output, Nat.le_trans h.size h'.size, fun k hk hn => (h'.block k (by omega)).trans (h.block k hk hn)⟩
theorem Fr.step {N j : Nat} {a b c : World} (h : Fr N a b) (h' : b.grownBy c (some j)) (hj : j < N ∨ a.heap.size ≤ j) : Fr N a c :=
  ⟨h'.os.trans h.os, h'.tape.trans h.tape, h'.output.trans h.output, Nat.le_trans h.size h'.size, fun k hk hl => (h'.block k (Nat.lt_of_lt_of_le hl h.size) (fun he => by cases he; omega)).trans (h.keep k hk hl)⟩
theorem heap_lt {w : World} {d : Nat} {o : Obj} (h : w.heap[d]? = some o) : d < w.heap.size := (Array.getElem?_eq_some_iff.1 h).1
theorem unw_one {w : World} {d : Nat} (h : w.heap[d]? = some (.deferred (some []))) : ∃ w', Unw w [marked d] w' ∧ w'.heap.size = w.heap.size ∧ w.grownBy w' (some d) :=
  ⟨_, .cons h (.nil _), by simp, rfl, rfl, rfl, by simp, fun k _ hn => by
    simp only
    rw [Array.getElem?_setIfInBounds_ne (fun he => hn (by rw [he]))]⟩
theorem r_rangeFunc' {C : Ctx} {k : List Item} {e : Env} {D : List Deferred} {w : World} {g : Operand} {ps : List Tmp} {x y : Code} {f : FuncId} {fst cap : List Value} (hr : C.r = none) (hg : ev e g = .func (.func f) ⟨fst⟩ ⟨cap⟩) (hin : ∀ args w, (callFunc f args).run C.P w = .ok (.enter f args) w)
    (h : ∀ (l db : Nat) (w1 : World) (Lp : World → LoopState → Option Code → Prop), (∀ w s p, Lp w s p ↔ LoopAt w l s p C.f C.n e ps x y) → (∀ w w' s p, Lp w s p → w'.heap[l]? = w.heap[l]? → Lp w' s p) → Ext w w1 → w.heap.size ≤ l → w.heap.size ≤ db → db ≠ l → db < w1.heap.size → l < w1.heap.size →
      w1.heap[db]? = some (.deferred (some [])) → Lp w1 .ready none →
      Ret C.P f (fst ++ [.func (.yield l) ⟨[]⟩ ⟨[]⟩] ++ cap) w1 (fun _ w2 => ∃ s p, s ≠ .busy ∧ Lp w2 s p ∧ stackOk C.n ((p.map Item.code).toList) = true ∧
        ∀ w3, w3.heap.size = w2.heap.size → w2.grownBy w3 (some l) → Runs C ((p.map Item.code).toList ++ k) e (marked db :: D) w3)) : Runs C (.code (.rangeFunc g ps.toArray x y) :: k) e D w :=
  r_rangeFunc hr hg hin fun l db w1 hE h1 h2 h3 h4 h5 h6 => h l db w1 (fun w s p => LoopAt w l s p C.f C.n e ps x y) (fun _ _ _ => Iff.rfl) (fun _ _ _ _ h hk => h.keep hk) hE h1 h2 h3 h4 h6.lt h5 h6
theorem ptr0 (b n : Nat) : ptr b (0 + n) = ptr b n := by rw [Nat.zero_add]
theorem imap {l : List Int} {i : Nat} (h : i < l.length) : (l.map vint)[i]? = some (vint (l.getD i 0)) := by
  rw [List.getElem?_map, List.getElem?_eq_getElem h, List.getD_eq_getElem?_getD, List.getElem?_eq_getElem h]; rfl
theorem imap_set (l : List Int) (i : Nat) (x : Int) : (l.map vint).set i (vint x) = (l.set i x).map vint := List.map_set.symm
theorem getD_set_ne {l : List Int} {i j : Nat} {x d : Int} (h : i ≠ j) : (l.set i x).getD j d = l.getD j d := by
  rw [List.getD_eq_getElem?_getD, List.getD_eq_getElem?_getD, List.getElem?_set_ne h]
theorem getD_set_eq {l : List Int} {i : Nat} {x d : Int} (h : i < l.length) : (l.set i x).getD i d = x := by
  rw [List.getD_eq_getElem?_getD, List.getElem?_set_self h]; rfl
/-- a loop whose marks grow -/
theorem r_roundsD {C : Ctx} {k : List Item} {e : Env} {D : List Deferred} {w : World} {α : Type} (I : α → Env → List Deferred → World → Prop) (mu : α → Nat) {c : Code} (x : α) (h0 : I x e D w)
    (round : ∀ x e D w, I x e D w → (∀ y e' D' w', I y e' D' w' → mu y < mu x → Runs C (.inLoop c :: k) e' D' w') → Runs C (.code c :: .inLoop c :: k) e D w) :
    Runs C (.code (.loop c) :: k) e D w := by
  have key : ∀ j x e D w, mu x = j → I x e D w → Runs C (.code c :: .inLoop c :: k) e D w := by
    intro j
    induction j using Nat.strongRecOn with
    | _ j ih =>
      intro x e D w hj hI
      refine round x e D w hI fun y e' D' w' hI' hlt => r_inLoop ?_
      exact ih (mu y) (by omega) y e' D' w' rfl hI'
  exact r_loop (key _ x e D w rfl h0)
/-- a statement whose ways go on alike: what follows is proved once -/
theorem r_ifj {C : Ctx} {k : List Item} {e : Env} {D : List Deferred} {w : World} {α : Type} (I : α → Env → World → Prop) {x z : Code} (h2 : ∀ x e w, I x e w → Runs C (.code z :: k) e D w)
    (h : (∀ x e w, I x e w → Runs C (.code z :: k) e D w) → Runs C (.code x :: .code z :: k) e D w) : Runs C (.code x :: .code z :: k) e D w := h h2
theorem l_lookup {C : Ctx} {ops : Array Oper} {rest : List Oper} {k : List Item} {e : Env} {D : List Deferred} {w : World} {d : Option Nat} {ty : TypeId} {pos : String} {af : Array Edge} {g : Option (Nat × Bool)}
    {t kt el : TypeId} {fs : Array Field} {x y : Operand} {m clock : Nat} {es : List MapEntry} {kv z : Value} (ht : C.P.underlying t = some (.map kt el)) (hk : C.P.underlying kt = some (.struct fs)) (hz : ∀ w, (zeroValue el).run C.P w = .ok z w)
    (hx : ev e x = .map (some m)) (hy : ev e y = kv) (hm : MapAt w m es clock) (hck : ∀ em w, (Instr.checkKey em 10000 kt kv).run C.P w = .ok () w) (ha : Asks C.P kt kv es)
    (hw : wantedE ops e ⟨d, .lookup t x y true, ty, pos, af, g⟩ = true)
    (h : ∀ v ok, (ok = true → ∃ en ∈ es, en.key = kv ∧ en.val = v) → (ok = false → v = z ∧ ∀ en ∈ es, en.key ≠ kv) → RunsL C ops rest k (updo e d (.tuple ⟨[v, .bool ok]⟩)) D w) :
    RunsL C ops (⟨d, .lookup t x y true, ty, pos, af, g⟩ :: rest) k e D w := by
  obtain ⟨v, ok, hq, h1, h2⟩ := q_lookup (d := d) (ty := ty) (pos := pos) (af := af) (g := g) ht hk hz hx hy hm hck ha hw
  exact l_q hq (h v ok h1 h2)
end Go.Gv
