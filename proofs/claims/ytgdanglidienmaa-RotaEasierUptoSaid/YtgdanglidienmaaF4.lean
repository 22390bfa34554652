/- Contracts. -/
import Derived.Test.YtgdanglidienmaaF3
set_option linter.unusedVariables false
set_option linter.unusedSimpArgs false
namespace Go.Proofs.Ytgdanglidienmaa
open Go Go.RowKit Go.Gv Go.Fl

def isSign (b : UInt8) : Bool := [46, 45, 32].contains b
theorem u8_eq {b n : UInt8} (h : (b.toNat : Int) = n.toNat) : b = n := UInt8.toNat_inj.1 (by exact_mod_cast h)
theorem isSign_of {b : UInt8} (h : ((b.toNat : Int) = 46) ∨ ((b.toNat : Int) = 45) ∨ ((b.toNat : Int) = 32)) : isSign b = true := by
  rcases h with h | h | h
  · rw [u8_eq (n := 46) h]; rfl
  · rw [u8_eq (n := 45) h]; rfl
  · rw [u8_eq (n := 32) h]; rfl
theorem isSign_not {b : UInt8} (h1 : ¬ ((b.toNat : Int) = 46)) (h2 : ¬ ((b.toNat : Int) = 45)) (h3 : ¬ ((b.toNat : Int) = 32)) : isSign b = false := by
  have h1 := u8_ne (n := 46) h1; have h2 := u8_ne (n := 45) h2; have h3 := u8_ne (n := 32) h3
  simp [isSign, h1, h2, h3]
theorem all_getD {α : Type} {l : List α} {d : α} {p : α → Bool} (h : ∀ j, j < l.length → p (l.getD j d) = true) : l.all p = true := by
  rw [List.all_eq_true]
  intro x hx
  obtain ⟨i, hi, rfl⟩ := List.mem_iff_getElem.1 hx
  have := h i hi
  rwa [List.getD_eq_getElem?_getD, List.getElem?_eq_getElem hi] at this
theorem all_bad {α : Type} {l : List α} {d : α} {p : α → Bool} {k : Nat} (hk : k < l.length) (h : p (l.getD k d) = false) : l.all p = false := by
  rw [List.all_eq_false]
  exact ⟨_, getD_lt hk, by rw [h]; exact Bool.false_ne_true⟩
theorem signsFault_good {a b s : Sg} (hs : s = a ++ b) (hle : a.length ≤ 40 ∧ b.length ≤ 40) (h : ∀ j, j < s.length → isSign (s.getD j 0) = true) : signsFault a b = 0 := by
  have := all_getD h
  rw [hs] at this
  rw [List.all_append, Bool.and_eq_true] at this
  unfold signsFault
  rw [if_neg (by omega), if_pos (by rw [Bool.and_eq_true]; exact this)]
theorem signsFault_bad {a b s : Sg} (hs : s = a ++ b) {k : Nat} (hle : a.length ≤ 40 ∧ b.length ≤ 40) (hk : k < s.length) (h : isSign (s.getD k 0) = false) : signsFault a b = 4 := by
  have := all_bad hk h
  rw [hs] at this
  rw [List.all_append] at this
  unfold signsFault
  rw [if_neg (by omega), if_neg (by unfold isSigns; unfold isSign at this; rw [this]; simp)]
theorem isText_good {c : List Sg} {t : List Int} (h : ∀ j, j < t.length → (decide (0 ≤ t.getD j 0) && decide (t.getD j 0 ≤ (c.length : Int) - 1)) = true) : isText c t = true :=
  all_getD (d := 0) (p := fun n => decide (0 ≤ n) && decide (n ≤ (c.length : Int) - 1)) h
theorem isText_bad {c : List Sg} {t : List Int} {k : Nat} (hk : k < t.length) (h : (decide (0 ≤ t.getD k 0) && decide (t.getD k 0 ≤ (c.length : Int) - 1)) = false) : isText c t = false :=
  all_bad (d := 0) (p := fun n => decide (0 ≤ n) && decide (n ≤ (c.length : Int) - 1)) hk h
theorem signs_step1 {c : List Sg} {t : List Int} {k : Nat} (hk : k < t.length) (h0 : 0 < k) : (signs c (t.take k) ++ [32]) ++ c.getD (t.getD k 0).toNat [] = signs c (t.take (k + 1)) := by
  rw [take_succ_getD hk, signs_snoc (by intro h; have := congrArg List.length h; rw [List.length_take, List.length_nil] at this; omega)]
theorem signs_step0 {c : List Sg} {t : List Int} {k : Nat} (hk : k < t.length) (h0 : k = 0) : signs c (t.take k) ++ c.getD (t.getD k 0).toNat [] = signs c (t.take (k + 1)) := by
  subst h0
  rw [take_succ_getD hk]
  simp [signs_nil, signs_one]



end Go.Proofs.Ytgdanglidienmaa
