/- Contracts. -/
import Derived.Test.YtbikicakdkbcgacGreatM3
set_option linter.unusedVariables false
set_option linter.unusedSimpArgs false
namespace Go.Proofs.YtbikicakdkbcgacGreat
open Go Go.RowKit Go.Gv Go.Fl
theorem own_ne_loop {w : World} {base e size n l n' : Nat} {v : Value} {xs : List Value} {s : LoopState} {p : Option Code} {f : FuncId} {en : Env} {ps : List Tmp} {x y : Code} (h : w.ownsRow base e size v n xs) (hl : LoopAt w l s p f n' en ps x y) : ∀ g : Nat, v.ownBlock = some g → g ≠ l := by
  intro g hg he
  rw [he] at hg
  obtain ⟨_, _, hl, _⟩ := hl
  rcases h.2 with ⟨rfl, _⟩ | ⟨g', cap, cur, rfl, _, hb, _⟩
  · cases hg
  · obtain rfl : g' = l := by simpa [Value.ownBlock] using hg
    rw [show w.heap[g']? = _ from hl] at hb; cases hb

theorem own_ne_def {w : World} {base e size n db : Nat} {v : Value} {xs : List Value} {D : List Deferred} (h : w.ownsRow base e size v n xs) (hd : w.heap[db]? = some (.deferred (some D))) : ∀ g : Nat, v.ownBlock = some g → g ≠ db := by
  intro g hg he
  subst he
  rcases h.2 with ⟨rfl, _⟩ | ⟨g', cap', cur, rfl, _, hg2, _⟩
  · cases hg
  · simp only [Value.ownBlock, Option.some.injEq] at hg
    subst hg
    rw [hd] at hg2
    cases hg2
theorem row_other {w w' : World} {a : Option Addr} {n c sz l : Nat} {cs : List Value} (h : Row w a n c sz cs) (hG : w.grownBy w' (some l)) (hl : ∀ c e q, w.heap[l]? ≠ some (.cells c e q)) : Row w' a n c sz cs := by
  refine ⟨h.1, h.2.1, ?_⟩
  rcases h.2.2 with h0 | ⟨b, o, ha, hc⟩
  · exact .inl h0
  · refine .inr ⟨b, o, ha, fun j v hj => ?_⟩
    have h1 := hc j v hj
    have h2 : w'.heap[b]? = w.heap[b]? := by
      have h3 : ∃ c e q, w.heap[b]? = some (.cells c e q) := by
        unfold Has World.cell? at h1
        cases h4 : w.heap[b]? with
        | none => simp [h4] at h1
        | some x => cases x <;> simp [h4] at h1 <;> exact ⟨_, _, _, rfl⟩
      obtain ⟨c, e, q, h3⟩ := h3
      exact hG.block b (heap_lt h3) (fun he => by
        have e1 : b = l := by simpa using he
        subst e1
        exact hl _ _ _ h3)
    unfold Has World.cell? at h1 ⊢
    rw [h2]; exact h1
theorem row_loop {w w' : World} {a : Option Addr} {n c sz l n' : Nat} {cs : List Value} {s : LoopState} {p : Option Code} {f : FuncId} {e : Env} {ps : List Tmp} {x y : Code} (h : Row w a n c sz cs) (hG : w.grownBy w' (some l)) (hl : LoopAt w l s p f n' e ps x y) : Row w' a n c sz cs := row_other h hG (fun c1 e1 q1 h1 => by
  obtain ⟨t, db, h2, _⟩ := hl
  rw [h1] at h2
  cases h2)
theorem row_def {w w' : World} {a : Option Addr} {n c sz db : Nat} {cs : List Value} {D : List Deferred} (h : Row w a n c sz cs) (hG : w.grownBy w' (some db)) (hd : w.heap[db]? = some (.deferred (some D))) : Row w' a n c sz cs := row_other h hG (fun c1 e1 q1 h1 => by
  rw [h1] at hd
  cases hd)
section
variable {co : List Sg} {er : Int} {se : List Int} {sl : List SN} {rl : List RC} {r : RC} {k : Nat} {bf : Int} {t : List Int}
theorem mem_pl : t ∈ plS se sl bf ↔ ∃ s ∈ sl, heardB se s.pn bf = true ∧ IsSub t s.xs := by
  unfold plS
  rw [List.mem_flatMap]
  constructor
  · rintro ⟨s, hs, h⟩
    split at h
    · rename_i h1; exact ⟨s, hs, h1, mem_subs.1 h⟩
    · cases h
  · rintro ⟨s, hs, h1, h2⟩
    exact ⟨s, hs, by rw [if_pos h1]; exact mem_subs.2 h2⟩
theorem sub_text {xs : List Int} (h : IsSub t xs) (hx : isText co xs = true) : isText co t = true := by
  obtain ⟨_, lo, _, h2⟩ := h
  rw [isText_iff] at hx ⊢
  intro x hx2
  rw [h2] at hx2
  unfold subOf at hx2
  exact hx x (List.mem_of_mem_take (List.mem_of_mem_drop hx2))
theorem pl_ok (hJn : ∀ x ∈ (lg co er se sl rl).J, (0 ≤ x.h ∧ x.h ≤ 23) ∧ (0 ≤ x.st ∧ x.st ≤ ((lg co er se sl rl).se.length : Int) - 1) ∧ (1 ≤ x.xs.length ∧ x.xs.length ≤ 5) ∧ isText (lg co er se sl rl).co x.xs = true) (h : (plS se sl bf)[k]? = some t) : 0 < t.length ∧ t.length ≤ 5 ∧ isText co t = true := by
  obtain ⟨s, hs, _, h2⟩ := mem_pl.1 (List.mem_of_getElem? h)
  obtain ⟨_, _, ⟨_, h4⟩, h5⟩ := hJn _ (List.mem_map.2 ⟨s, hs, rfl⟩)
  have h6 := h2
  obtain ⟨h7, lo, h8, _⟩ := h2
  have h4 : s.xs.length ≤ 5 := h4
  exact ⟨h7, by omega, sub_text h6 h5⟩
end



end Go.Proofs.YtbikicakdkbcgacGreat
