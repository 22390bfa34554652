/- More on blocks with the type of their cells: boxes, stores of several cells, rows in rows. Conditions: none. -/
import Derived.Test.YtbikicakdkbcgacGreatGvB
import Derived.Test.YtbikicakdkbcgacGreatGvA
set_option linter.unusedVariables false
set_option linter.unusedSimpArgs false
namespace Go.Gv
open Go Go.RowKit
section
variable {P : Program} {ops : Array Oper} {e : Env} {w : World} {d : Option Nat} {ty : TypeId} {pos : String} {af : Array Edge} {g : Option (Nat × Bool)}
theorem o_boxt {K : Value → World → Prop} {t : TypeId} {x : Operand} {v : Value} {cs : List Value} (hx : ev e x = v) (hcs : v.cells = ⟨cs⟩) (hw : wantedE ops e ⟨d, .box t x, ty, pos, af, g⟩ = true)
    (h : ∀ b w', w.heap.size ≤ b → b < w'.heap.size → w.heap.size ≤ w'.heap.size → Blk w' b cs → TyAt w' b t → Ext w w' → K ((ptr b 0)) w') : EffAt P ops e w ⟨d, .box t x, ty, pos, af, g⟩ K :=
  e_value (w' := w.alloc (.cells ⟨cs⟩ t)) hw rfl (by simp [execOp, hx, Instr.box, newVar, newRow, hcs])
    (h w.heap.size _ (Nat.le_refl _) (by simp) (by simp) (blk_new w cs t) ⟨_, heap_alloc_new w _⟩ (World.grownBy_alloc w _ none))
theorem o_storet {K : Value → World → Prop} {t : TypeId} {x y : Operand} {b o : Nat} {v : Value} {cs vs cs' : List Value} (hsz : ∀ w, (sizeOf t).run P w = .ok vs.length w) (hx : ev e x = ptr b o) (hy : ev e y = v) (hv : v.cells = ⟨vs⟩) (h1 : vs.all Value.oneCell' = true)
    (hb : Blk w b cs) (hf : o + vs.length ≤ cs.length) (hcs : cs.take o ++ vs ++ cs.drop (o + vs.length) = cs') (hw : wantedE ops e ⟨d, .store t x y, ty, pos, af, g⟩ = true)
    (h : ∀ w', w'.heap.size = w.heap.size → Blk w' b cs' → (∀ T, TyAt w b T → TyAt w' b T) → w.grownBy w' (some b) → K undef w') : EffAt P ops e w ⟨d, .store t x y, ty, pos, af, g⟩ K := by
  obtain ⟨T, hT⟩ := hb
  have hst := run_storeCells_at P b o T vs 0 ⟨cs⟩ w hT (by simpa using hf) (fun v hv => List.all_eq_true.1 h1 v hv)
  simp only [Nat.add_zero, hcs] at hst
  refine e_done (w' := w.setRow b ⟨cs'⟩) hw rfl ?_ (h _ (by simp) ⟨T, setRow_heap w b _ _ T _ hT⟩ (fun T2 h2 => ?_) ⟨rfl, rfl, rfl, by simp, fun k _ hk => setRow_other w b k _ (fun e => hk (by simp [e]))⟩)
  · simp [execOp, hx, hy, Instr.storeAt, Instr.sureAddr, storeVar, hsz, hv, hst]
  · obtain ⟨cs2, h2⟩ := h2
    rw [hT] at h2
    injection h2 with h2
    injection h2 with h3 h4
    subst h4
    exact ⟨_, setRow_heap w b _ _ T _ hT⟩
end
theorem own_apart {w w' : World} {base e size n B e2 size2 n2 : Nat} {v v2 : Value} {xs xs2 : List Value} (h : w.ownsRow base e size v n xs) (hlt : ∀ g, v.ownBlock = some g → g < B) (ho : w.ownsRow B e2 size2 v2 n2 xs2) (hG : w.grownBy w' v2.ownBlock) : w'.ownsRow base e size v n xs :=
  own_keepB h (fun g hg => hG.block g (h.lt g hg).2 (fun he => by have h1 := own_block_ge ho he.symm; have h2 := hlt g hg; omega))
theorem OwnsI.apart {w w' : World} {b el B e2 size2 n2 : Nat} {l : List SV} {v2 : Value} {xs2 : List Value} (h : OwnsI w b el l) (hlt : ∀ s ∈ l, ∀ g, (SV.enc s).ownBlock = some g → g < B) (ho : w.ownsRow B e2 size2 v2 n2 xs2) (hG : w.grownBy w' v2.ownBlock) : OwnsI w' b el l :=
  fun s hs => own_apart (h s hs) (hlt s hs) ho hG
theorem OwnsI.under {w : World} {b el : Nat} {l : List SV} (h : OwnsI w b el l) : ∀ s ∈ l, ∀ g, (SV.enc s).ownBlock = some g → g < w.heap.size := fun s hs g hg => ((h s hs).lt g hg).2
theorem OwnsI.tyupd {w w' : World} {B el b T : Nat} {l : List SV} (h : OwnsI w B el l) (ht : TyAt w b T) (hG : w.grownBy w' (some b)) (hne : el ≠ T) : OwnsI w' B el l := fun s hs => own_ty_upd (h s hs) ht hG hne
end Go.Gv
