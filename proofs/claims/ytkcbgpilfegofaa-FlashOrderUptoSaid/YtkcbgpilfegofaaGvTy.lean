/- A block with the type of its cells: a slice that was made and is written into is still one's own. Conditions: none. -/
import Derived.Test.YtkcbgpilfegofaaGvDrawB
import Derived.Test.YtkcbgpilfegofaaGvApp
set_option linter.unusedVariables false
set_option linter.unusedSimpArgs false
namespace Go.Gv
open Go Go.RowKit
section
variable {P : Program} {ops : Array Oper} {e : Env} {w : World} {d : Option Nat} {ty : TypeId} {pos : String} {af : Array Edge} {g : Option (Nat × Bool)}
def TyAt (w : World) (b : Nat) (T : TypeId) : Prop := ∃ cs, w.heap[b]? = some (.cells cs T (0, 0))
theorem TyAt.lt {w : World} {b T : Nat} (h : TyAt w b T) : b < w.heap.size := by
  obtain ⟨cs, h⟩ := h
  exact (Array.getElem?_eq_some_iff.1 h).1
theorem TyAt.ext {w w' : World} {b T : Nat} (h : TyAt w b T) (hE : Ext w w') : TyAt w' b T := by
  have hl := h.lt
  obtain ⟨cs, h⟩ := h
  exact ⟨cs, by rw [hE.block b hl (by simp)]; exact h⟩
theorem TyAt.upd {w w' : World} {b j T : Nat} (h : TyAt w b T) (hE : w.grownBy w' (some j)) (hne : b ≠ j) : TyAt w' b T := by
  have hl := h.lt
  obtain ⟨cs, h⟩ := h
  exact ⟨cs, by rw [hE.block b hl (by simpa using hne)]; exact h⟩
theorem ty_of_own {w : World} {base el sz b n c : Nat} {xs : List Value} (h : w.ownsRow base el sz (.slice (some ⟨b, 0, none⟩) n c) n xs) : TyAt w b el := by
  rcases h.2 with ⟨h', _⟩ | ⟨g', cap', cur, h', _, hg, _⟩
  · simp at h'
  · simp only [Value.slice.injEq, Option.some.injEq, Addr.mk.injEq, and_true, true_and] at h'
    obtain ⟨rfl, rfl⟩ := h'
    exact ⟨cur, hg⟩
theorem own_of_blk {w : World} {base el b n : Nat} {xs : List Value} (hb : Blk w b xs) (ht : TyAt w b el) (hn : xs.length = n) (hm : n ≤ maxLen) (hB : base ≤ b) : w.ownsRow base el 1 (.slice (some ⟨b, 0, none⟩) n n) n xs := by
  obtain ⟨T, hb⟩ := hb
  obtain ⟨cs, ht⟩ := ht
  rw [hb] at ht
  injection ht with ht
  injection ht with h1 h2
  subst h2
  exact ⟨by omega, .inr ⟨b, n, ⟨xs⟩, rfl, hB, hb, Nat.le_refl _, hm, by simpa using hn, by
    simp only [Nat.mul_one]; rw [← hn]; exact List.take_length⟩⟩
theorem o_store1t {K : Value → World → Prop} {t : TypeId} {x y : Operand} {b o T : Nat} {v : Value} {cs : List Value} (hsz : ∀ w, (sizeOf t).run P w = .ok 1 w) (hx : ev e x = ptr b o) (hy : ev e y = v) (hv : v.cells = ⟨[v]⟩) (h1 : v.oneCell' = true)
    (hb : Blk w b cs) (hty : TyAt w b T) (hf : o < cs.length) (hw : wantedE ops e ⟨d, .store t x y, ty, pos, af, g⟩ = true)
    (h : ∀ w', w'.heap.size = w.heap.size → Blk w' b (cs.set o v) → TyAt w' b T → w.grownBy w' (some b) → K undef w') : EffAt P ops e w ⟨d, .store t x y, ty, pos, af, g⟩ K := by
  obtain ⟨T', hT⟩ := hb
  obtain ⟨cs', hty⟩ := hty
  rw [hT] at hty
  injection hty with hty
  injection hty with h2 h3
  subst h3
  have hst := run_storeCells_at P b o T' [v] 0 ⟨cs⟩ w hT (by simp; omega) (fun v' hv' => by simp at hv'; subst hv'; exact h1)
  have hcs : cs.take o ++ [v] ++ cs.drop (o + [v].length) = cs.set o v := by rw [List.set_eq_take_append_cons_drop, if_pos hf]; simp
  simp only [Nat.add_zero] at hst
  rw [hcs] at hst
  refine e_done (w' := w.setRow b ⟨cs.set o v⟩) hw rfl ?_ (h _ (by simp) ⟨T', setRow_heap w b _ _ T' _ hT⟩ ⟨_, setRow_heap w b _ _ T' _ hT⟩ ⟨rfl, rfl, rfl, by simp, fun k _ hk => setRow_other w b k _ (fun e => hk (by simp [e]))⟩)
  have hst := hst
  simp [execOp, hx, hy, Instr.storeAt, Instr.sureAddr, storeVar, hsz, hv, hst]
end
end Go.Gv
