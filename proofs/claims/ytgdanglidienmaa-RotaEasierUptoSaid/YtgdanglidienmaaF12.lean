/- Contracts. -/
import Derived.Test.YtgdanglidienmaaF11
set_option linter.unusedVariables false
set_option linter.unusedSimpArgs false
namespace Go.Proofs.Ytgdanglidienmaa
open Go Go.RowKit Go.Gv Go.Fl

theorem below_upd_any {B m : Nat} {w0 w w' : World} (hB : Below B w0 w) (hG : w.grownBy w' (some m)) (hm : B ≤ m) (hsz : B ≤ w.heap.size) : Below B w0 w' := hB.grown hG hsz (fun k hk => by cases hk; exact hm)
theorem chk_two (a b : Sg) : chk [a, b] = signsFault a b := by
  unfold chk signsFault
  by_cases ha : a.length ≤ 40 <;> by_cases hb : b.length ≤ 40
  · have h1 : [a, b].all (fun s => decide ((s.length : Int) ≤ 40)) = true := by simp; omega
    have h2 : [a, b].all isSigns = (isSigns a && isSigns b) := by simp
    rw [if_pos h1, h2, if_neg (show ¬ (40 < a.length ∨ 40 < b.length) by omega)]
  all_goals
    have h1 : ¬ [a, b].all (fun s => decide ((s.length : Int) ≤ 40)) = true := by simp; omega
    rw [if_neg h1, if_pos (show 40 < a.length ∨ 40 < b.length by omega)]
theorem signs33 {s : Sg} (h : isSigns s = true) : ∀ x ∈ s, x ≠ 33 := by
  intro x hx he
  have := List.all_eq_true.1 h x hx
  subst he
  simp at this
theorem sf_zero {a b : Sg} (h : signsFault a b = 0) : (∀ x ∈ a, x ≠ 33) ∧ (∀ x ∈ b, x ≠ 33) ∧ a.length ≤ 40 ∧ b.length ≤ 40 ∧ isSigns a = true ∧ isSigns b = true := by
  unfold signsFault at h
  split at h
  · cases h
  · split at h
    · rename_i h1 h2
      rw [Bool.and_eq_true] at h2
      exact ⟨signs33 h2.1, signs33 h2.2, by omega, by omega, h2⟩
    · cases h
def errs (s r : Sg) : Int × Int := if ¬ signsFault s r = 0 then (0, signsFault s r) else if 1048576 ≤ fe 1048576 s r then (0, 11) else (fe 1048576 s r, 0)



end Go.Proofs.Ytgdanglidienmaa
