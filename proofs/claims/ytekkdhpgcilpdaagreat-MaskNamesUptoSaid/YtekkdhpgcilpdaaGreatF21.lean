/- Contracts. -/
import Derived.Test.YtekkdhpgcilpdaaGreatE1
set_option linter.unusedVariables false
set_option linter.unusedSimpArgs false
namespace Go.Proofs.YtekkdhpgcilpdaaGreat
open Go Go.RowKit Go.Gv Go.Fl

/-- the cells of the table that are done: behind the row a, and of that row from b on -/
def Done (s r : Sg) (T : List Int) (a b : Nat) : Prop := ∀ i k, i ≤ s.length → k ≤ r.length → (a < i ∨ (i = a ∧ b ≤ k)) → T.getD (0 + i * 41 + k) 0 = fe 1000 (s.drop i) (r.drop k)
theorem Done.none {s r : Sg} {T : List Int} : Done s r T s.length (r.length + 1) := fun i k hi hk h => by omega
theorem Done.row {s r : Sg} {T : List Int} {i b : Nat} (h : Done s r T (i + 1) 0) (hb : b = r.length + 1) : Done s r T i b := fun i' k hi hk h' => h i' k hi hk (by omega)
theorem Done.start {s r : Sg} {T : List Int} {b : Nat} (h : Done s r T (s.length + 1) 0) (hb : b = r.length + 1) : Done s r T s.length b := h.row hb
theorem Done.put {s r : Sg} {T : List Int} {i k : Nat} {x : Int} (h : Done s r T i (k + 1)) (hT : T.length = 1681) (hi : i ≤ s.length) (hk : k ≤ r.length) (hs : s.length ≤ 40) (hr : r.length ≤ 40) (hx : x = fe 1000 (s.drop i) (r.drop k)) : Done s r (T.set (0 + i * 41 + k) x) i k := by
  intro i' k' hi' hk' h'
  by_cases he : i' = i ∧ k' = k
  · obtain ⟨rfl, rfl⟩ := he
    rw [getD_set_eq (by omega)]; exact hx
  · rw [Gv.getD_set_ne (by omega)]
    exact h i' k' hi' hk' (by omega)
theorem step_drop {k : Int} {s r : Sg} {i l : Nat} (h : (stepR k (s.drop i) (r.drop l)).2.2 = true) (hi : i ≤ s.length) (hl : l ≤ r.length) : ∃ j m, (stepR k (s.drop i) (r.drop l)).1 = s.drop j ∧ (stepR k (s.drop i) (r.drop l)).2.1 = r.drop m ∧ j ≤ s.length ∧ m ≤ r.length ∧ (i < j ∨ (j = i ∧ l + 1 ≤ m)) ∧ l ≤ m := by
  have h0 : stepR k (s.drop i) (r.drop l) = ((stepR k (s.drop i) (r.drop l)).1, (stepR k (s.drop i) (r.drop l)).2.1, true) := by rw [← h]
  obtain ⟨t, wr, hp, h1, h2⟩ := step_pc h0
  have hd := stepR_dec h
  have e1 := congrArg List.length h1
  have e2 := congrArg List.length h2
  rw [List.length_append, List.length_drop] at e1 e2
  rw [List.length_drop, List.length_drop] at hd
  refine ⟨i + t.length, l + wr.length, ?_, ?_, by omega, by omega, by omega, by omega⟩
  · rw [← List.drop_drop]; conv => rhs; rw [h1, List.drop_left]
  · rw [← List.drop_drop]; conv => rhs; rw [h2, List.drop_left]
theorem Done.get {s r : Sg} {T : List Int} {i k : Nat} {kd x : Int} (h : Done s r T i (k + 1)) (hT : T.length = 1681) (hi : i ≤ s.length) (hk : k ≤ r.length) (hs : s.length ≤ 40) (hr : r.length ≤ 40) (hst : (stepR kd (s.drop i) (r.drop k)).2.2 = true) :
    (T.set (0 + i * 41 + k) x).getD (0 + ((s.length : Int) - ((stepR kd (s.drop i) (r.drop k)).1.length : Int)).toNat * 41 + ((r.length : Int) - ((stepR kd (s.drop i) (r.drop k)).2.1.length : Int)).toNat) 0 = fe 1000 (stepR kd (s.drop i) (r.drop k)).1 (stepR kd (s.drop i) (r.drop k)).2.1 ∧ (stepR kd (s.drop i) (r.drop k)).1.length ≤ s.length ∧ (stepR kd (s.drop i) (r.drop k)).2.1.length ≤ r.length := by
  obtain ⟨j, l, hA, hB, hj, hl, hlt, _⟩ := step_drop hst hi hk
  have h1 : ((s.length : Int) - ((stepR kd (s.drop i) (r.drop k)).1.length : Int)).toNat = j := by rw [hA, List.length_drop]; omega
  have h2 : ((r.length : Int) - ((stepR kd (s.drop i) (r.drop k)).2.1.length : Int)).toNat = l := by rw [hB, List.length_drop]; omega
  rw [h1, h2, Gv.getD_set_ne (by omega), h j l hj hl hlt, hA, hB, List.length_drop, List.length_drop]
  exact ⟨rfl, by omega, by omega⟩
end Go.Proofs.YtekkdhpgcilpdaaGreat
