/- More on blocks with the type of their cells: an own row lies in no block of another type. Conditions: none. -/
import Derived.Test.YtkcbgpilfegofaaGvTy
set_option linter.unusedVariables false
set_option linter.unusedSimpArgs false
namespace Go.Gv
open Go Go.RowKit
section
variable {P : Program} {ops : Array Oper} {e : Env} {w : World} {d : Option Nat} {ty : TypeId} {pos : String} {af : Array Edge} {g : Option (Nat × Bool)}
theorem own_ty_ne {w : World} {base el sz n T b : Nat} {v : Value} {xs : List Value} (h : w.ownsRow base el sz v n xs) (ht : TyAt w b T) (hne : el ≠ T) : some b ≠ v.ownBlock := by
  intro he
  obtain ⟨cs, ht⟩ := ht
  rcases h.2 with ⟨rfl, _⟩ | ⟨g', cap', cur, rfl, _, hg, _⟩
  · cases he
  · simp only [Value.ownBlock, Option.some.injEq] at he
    subst he
    rw [ht] at hg
    injection hg with hg
    injection hg with h1 h2
    exact hne h2.symm
theorem TyAt.own {w w' : World} {base el sz n T b : Nat} {v : Value} {xs : List Value} (ht : TyAt w b T) (h : w.ownsRow base el sz v n xs) (hG : w.grownBy w' v.ownBlock) (hne : el ≠ T) : TyAt w' b T := by
  have h0 := own_ty_ne h ht hne
  have hl := ht.lt
  obtain ⟨cs, ht⟩ := ht
  exact ⟨cs, by rw [hG.block b hl h0]; exact ht⟩
theorem own_ty_upd {w w' : World} {base el sz n T b : Nat} {v : Value} {xs : List Value} (h : w.ownsRow base el sz v n xs) (ht : TyAt w b T) (hG : w.grownBy w' (some b)) (hne : el ≠ T) : w'.ownsRow base el sz v n xs :=
  own_keepB h (fun g hg => hG.block g (h.lt g hg).2 (fun he => own_ty_ne h ht hne (by rw [hg]; exact he.symm)))
theorem o_alloct {K : Value → World → Prop} {t : TypeId} {z : Value} {cs : List Value} (hz : ∀ w, (zeroValue t).run P w = .ok z w) (hcs : z.cells = ⟨cs⟩) (hw : wantedE ops e ⟨d, .alloc t, ty, pos, af, g⟩ = true)
    (h : ∀ b w', w.heap.size ≤ b → b < w'.heap.size → w.heap.size ≤ w'.heap.size → Blk w' b cs → TyAt w' b t → Ext w w' → K ((ptr b 0)) w') : EffAt P ops e w ⟨d, .alloc t, ty, pos, af, g⟩ K :=
  e_value (w' := w.alloc (.cells ⟨cs⟩ t)) hw rfl (by simp [execOp, Instr.alloc, hz, newVar, newRow, hcs])
    (h w.heap.size _ (Nat.le_refl _) (by simp) (by simp) (blk_new w cs t) ⟨_, heap_alloc_new w _⟩ (World.grownBy_alloc w _ none))
end
end Go.Gv
