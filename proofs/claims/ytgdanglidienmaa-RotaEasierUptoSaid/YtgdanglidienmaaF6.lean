/- Contracts. -/
import Derived.Test.YtgdanglidienmaaF5
set_option linter.unusedVariables false
set_option linter.unusedSimpArgs false
namespace Go.Proofs.Ytgdanglidienmaa
open Go Go.RowKit Go.Gv Go.Fl

theorem tup2 {x x' y y' : Value} (h : x = x') (h' : y = y') : Value.tuple ⟨[x, y]⟩ = .tuple ⟨[x', y']⟩ := by rw [h, h']
theorem tup3 {x x' y y' z z' : Value} (h : x = x') (h' : y = y') (h'' : z = z') : Value.tuple ⟨[x, y, z]⟩ = .tuple ⟨[x', y', z']⟩ := by rw [h, h', h'']
def thin (c : List Sg) (s : Sg) : Bool := (decide (c.length ≤ 9) && c.all (fun t => decide (t.length ≤ 9))) && decide (s.length ≤ 60)
theorem thin_bad {c : List Sg} {s : Sg} {k : Nat} (hk : k < c.length) (h : 9 < (c.getD k []).length) : thin c s = false := by
  unfold thin
  rw [Bool.and_eq_false_iff]; left
  rw [Bool.and_eq_false_iff]; right
  rw [List.all_eq_false]
  exact ⟨c.getD k [], getD_lt hk, by simp only [decide_eq_true_eq]; omega⟩
theorem thin_end {c : List Sg} {s : Sg} {k : Nat} (hk : k ≤ c.length) (h7 : k = c.length ∨ k = 10) (h : ∀ j, j < k → (c.getD j []).length ≤ 9) : thin c s = (decide ((c.length : Int) ≤ 9) && decide ((s.length : Int) ≤ 60)) := by
  unfold thin
  have h1 : decide ((s.length : Int) ≤ 60) = decide (s.length ≤ 60) := by rw [Bool.eq_iff_iff, decide_eq_true_eq, decide_eq_true_eq]; omega
  have h2 : decide ((c.length : Int) ≤ 9) = decide (c.length ≤ 9) := by rw [Bool.eq_iff_iff, decide_eq_true_eq, decide_eq_true_eq]; omega
  rw [h1, h2]
  by_cases h70 : c.length ≤ 9
  · have : k = c.length := by omega
    subst this
    rw [all_getD (d := []) (p := fun t => decide (t.length ≤ 9)) (fun j hj => by simpa using h j hj), Bool.and_true]
  · simp [h70]
def readyB (c : List Sg) (t : List Int) : Bool := ((thin c [] && decide (fault c = 0)) && decide ((t.length : Int) ≤ 5)) && isText c t
theorem fault_none {c : List Sg} (h6 : c.length ≤ 6) (h : c.length = 0 ∨ c.all letterOk = false) : fault c = 1 := by
  by_cases h0 : c.length = 0
  · exact fault_empty h0
  · rcases h with h | h
    · omega
    · rw [List.all_eq_false] at h
      obtain ⟨x, hx, hl⟩ := h
      obtain ⟨i, hi, rfl⟩ := List.mem_iff_getElem.1 hx
      refine fault_bad h6 hi (.inl ?_)
      rw [List.getD_eq_getElem?_getD, List.getElem?_eq_getElem hi]
      simpa using hl
theorem fault_all {c : List Sg} (h6 : c.length ≤ 6) (h0 : c.length ≠ 0) (h : c.all letterOk = true) (hd : ∀ j, j < c.length → distinctAt c j = true) : fault c = 0 :=
  fault_good h6 h0 (fun i hi => ⟨List.all_eq_true.1 h _ (getD_lt hi), hd i hi⟩)
def chk (l : List Sg) : Int := if l.all (fun s => decide ((s.length : Int) ≤ 40)) = true then (if l.all isSigns = true then 0 else 4) else 3
theorem letters_step {c : List Sg} {t : List Int} {k : Nat} (hk : k < t.length) : letters c (t.take k) ++ [c.getD (t.getD k 0).toNat []] = letters c (t.take (k + 1)) := by
  rw [take_succ_getD hk]; simp [letters]
def send (c : List Sg) (t : List Int) : Sg × Int := if ¬ fault c = 0 then ([], fault c) else if 5 < t.length then ([], 3) else if isText c t = true then (signs c t, 0) else ([], 2)



end Go.Proofs.Ytgdanglidienmaa
