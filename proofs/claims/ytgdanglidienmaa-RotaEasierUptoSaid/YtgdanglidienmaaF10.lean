/- Contracts. -/
import Derived.Test.YtgdanglidienmaaF9
import Derived.Test.YtgdanglidienmaaGvB
set_option linter.unusedVariables false
set_option linter.unusedSimpArgs false
namespace Go.Proofs.Ytgdanglidienmaa
open Go Go.RowKit Go.Gv Go.Fl

def ofK (k : Int) (s : Sg) : Sg × Sg :=
  if k = 0 then (s.take 1, s.take 1)
  else if k = 1 then (if s.getD 0 0 = 32 then ([], [33]) else (s.take 1, []))
  else if k = 2 then (if s.getD 0 0 = 45 then (s.take 1, [46, 46]) else ([], [33]))
  else if k = 3 then (if hasPfx s [46, 46] = true then (s.take 2, [45]) else ([], [33]))
  else if k = 4 then (if s.getD 0 0 = 32 then (s.take 1, []) else ([], [33]))
  else ([], [32])
theorem pfx_len {s p : Sg} (h : hasPfx s p = true) : p.length ≤ s.length := by
  unfold hasPfx at h
  have := congrArg List.length (of_decide_eq_true h)
  rw [List.length_take] at this; omega
theorem ofK_len {k : Nat} {s : Sg} (_hk : k < 6) (_h : k = 5 ∨ 1 ≤ s.length) : (ofK (k : Int) s).1.length ≤ s.length := by
  unfold ofK
  repeat' split
  all_goals simp only [List.length_take, List.length_nil]
  all_goals omega
theorem pfx33 {r : Sg} (h : ∀ x ∈ r, x ≠ 33) : hasPfx r [33] = false := by
  cases r with
  | nil => rfl
  | cons x l =>
    have := h x (by simp)
    unfold hasPfx; rw [decide_eq_false_iff_not]; intro he
    simp at he; exact this he
/-- a step of the program's is the document's -/
theorem ofK_tw' {k : Int} {s : Sg} (hk : 0 ≤ k ∧ k < 6) (h : k = 5 ∨ 1 ≤ s.length) : (stepTW k s = none ∧ (ofK k s).2 = [33]) ∨ stepTW k s = some ((ofK k s).1.length, (ofK k s).2) := by
  have ht : 1 ≤ s.length → (s.take 1).length = 1 := fun h => by rw [List.length_take]; omega
  have hn : 1 ≤ s.length → s ≠ [] := fun h h0 => by subst h0; simp at h
  rcases (show k = 0 ∨ k = 1 ∨ k = 2 ∨ k = 3 ∨ k = 4 ∨ k = 5 by omega) with rfl | rfl | rfl | rfl | rfl | rfl
  · have h := h.resolve_left (by decide)
    right
    show (if s = [] then none else some (1, s.take 1)) = some ((s.take 1).length, s.take 1)
    rw [if_neg (hn h), ht h]
  · have h := h.resolve_left (by decide)
    have e1 : stepTW 1 s = if s = [] ∨ s.getD 0 0 = 32 then none else some (1, []) := rfl
    have e2 : ofK 1 s = if s.getD 0 0 = 32 then ([], [33]) else (s.take 1, []) := rfl
    rw [e1, e2]
    by_cases hb : s.getD 0 0 = 32
    · left; rw [if_pos (.inr hb), if_pos hb]; exact ⟨rfl, rfl⟩
    · right; rw [if_neg (fun hx => hx.elim (hn h) hb), if_neg hb, ht h]
  · have h := h.resolve_left (by decide)
    have e1 : stepTW 2 s = if s = [] ∨ s.getD 0 0 ≠ 45 then none else some (1, [46, 46]) := rfl
    have e2 : ofK 2 s = if s.getD 0 0 = 45 then (s.take 1, [46, 46]) else ([], [33]) := rfl
    rw [e1, e2]
    by_cases hb : s.getD 0 0 = 45
    · right; rw [if_neg (fun hx => hx.elim (hn h) (fun hx => hx hb)), if_pos hb, ht h]
    · left; rw [if_pos (.inr hb), if_neg hb]; exact ⟨rfl, rfl⟩
  · have h := h.resolve_left (by decide)
    have e1 : stepTW 3 s = if s.length < 2 ∨ s.take 2 ≠ [46, 46] then none else some (2, [45]) := rfl
    have e2 : ofK 3 s = if hasPfx s [46, 46] = true then (s.take 2, [45]) else ([], [33]) := rfl
    rw [e1, e2]
    by_cases hb : hasPfx s [46, 46] = true
    · right
      have hl : 2 ≤ s.length := pfx_len hb
      have h2 : s.take 2 = [46, 46] := of_decide_eq_true hb
      rw [if_neg (fun hx => hx.elim (fun hx => by omega) (fun hx => hx h2)), if_pos hb, List.length_take, Nat.min_eq_left hl]
    · left
      rw [if_pos (.inr (fun h2 => hb (decide_eq_true h2))), if_neg hb]; exact ⟨rfl, rfl⟩
  · have h := h.resolve_left (by decide)
    have e1 : stepTW 4 s = if s = [] ∨ s.getD 0 0 ≠ 32 then none else some (1, []) := rfl
    have e2 : ofK 4 s = if s.getD 0 0 = 32 then (s.take 1, []) else ([], [33]) := rfl
    rw [e1, e2]
    by_cases hb : s.getD 0 0 = 32
    · right; rw [if_neg (fun hx => hx.elim (hn h) (fun hx => hx hb)), if_pos hb, ht h]
    · left; rw [if_pos (.inr hb), if_neg hb]; exact ⟨rfl, rfl⟩
  · right; rfl
theorem ofK_tw {k : Nat} {s : Sg} (hk : k < 6) (h : k = 5 ∨ 1 ≤ s.length) : (stepTW (k : Int) s = none ∧ (ofK (k : Int) s).2 = [33]) ∨ stepTW (k : Int) s = some ((ofK (k : Int) s).1.length, (ofK (k : Int) s).2) :=
  ofK_tw' (by omega) (h.imp (fun h => by omega) id)
theorem ofK_step {k : Nat} {s r : Sg} (hk : k < 6) (h : k = 5 ∨ 1 ≤ s.length) (hr : ∀ x ∈ r, x ≠ 33) (hp : hasPfx r (ofK (k : Int) s).2 = true) : stepR (k : Int) s r = (s.drop (ofK (k : Int) s).1.length, r.drop (ofK (k : Int) s).2.length, true) := by
  rcases ofK_tw hk h with ⟨_, h1⟩ | h1
  · rw [h1, pfx33 hr] at hp; cases hp
  · exact stepR_yes h1 hp
theorem ofK_no {k : Nat} {s r : Sg} (hk : k < 6) (h : k = 5 ∨ 1 ≤ s.length) (hr : ∀ x ∈ r, x ≠ 33) (hp : hasPfx r (ofK (k : Int) s).2 = false) : (stepR (k : Int) s r).2.2 = false := by
  rcases ofK_tw hk h with ⟨h1, _⟩ | h1
  · rw [stepR_none h1]
  · rw [stepR_no h1 hp]
theorem step_empty {k : Nat} {s r : Sg} (h : s = []) (hk : k < 5) : (stepR (k : Int) s r).2.2 = false := by
  subst h
  have : stepTW (k : Int) [] = none := by
    rcases (show k = 0 ∨ k = 1 ∨ k = 2 ∨ k = 3 ∨ k = 4 by omega) with rfl | rfl | rfl | rfl | rfl <;> simp [stepTW]
  rw [stepR_none this]



end Go.Proofs.Ytgdanglidienmaa
