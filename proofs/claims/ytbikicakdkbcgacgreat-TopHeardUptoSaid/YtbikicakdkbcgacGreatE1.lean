/- Contracts. -/
import Derived.Test.YtbikicakdkbcgacGreatF12
import Derived.Test.YtbikicakdkbcgacGreatF14
set_option linter.unusedVariables false
set_option linter.unusedSimpArgs false
namespace Go.Proofs.YtbikicakdkbcgacGreat
open Go Go.RowKit Go.Gv Go.Fl

def good (s r : Sg) (k : Nat) : Bool := (stepR (k : Int) s r).2.2 && decide (cost (k : Int) + fe 1048576 (stepR (k : Int) s r).1 (stepR (k : Int) s r).2.1 = fe 1048576 s r)
/-- one step: what it takes, what it writes, its errors -/
def Pc (t wr : Sg) (c : Int) : Prop :=
  (∃ x, t = [x] ∧ wr = [x] ∧ c = 0) ∨ (∃ x : UInt8, x ≠ 32 ∧ t = [x] ∧ wr = [] ∧ c = 1) ∨ (t = [45] ∧ wr = [46, 46] ∧ c = 1) ∨ (t = [46, 46] ∧ wr = [45] ∧ c = 1) ∨ (t = [32] ∧ wr = [] ∧ c = 1) ∨ (t = [] ∧ wr = [32] ∧ c = 1)
inductive Ex : Sg → Sg → Int → Prop
  | nil : Ex [] [] 0
  | cons {t wr s r : Sg} {c n : Int} (h : Pc t wr c) (h' : Ex s r n) : Ex (t ++ s) (wr ++ r) (c + n)
theorem pfx_append (wr r : Sg) : hasPfx (wr ++ r) wr = true := by unfold hasPfx; rw [List.take_left]; simp
theorem pc_step {t wr s r : Sg} {c : Int} (h : Pc t wr c) : ∃ k : Nat, k < 6 ∧ stepR (k : Int) (t ++ s) (wr ++ r) = (s, r, true) ∧ cost (k : Int) = c := by
  have key : ∀ k : Nat, stepTW (k : Int) (t ++ s) = some (t.length, wr) → stepR (k : Int) (t ++ s) (wr ++ r) = (s, r, true) := fun k hk => by
    rw [stepR_yes hk (pfx_append wr r), List.drop_left, List.drop_left]
  rcases h with ⟨x, rfl, rfl, rfl⟩ | ⟨x, hx, rfl, rfl, rfl⟩ | ⟨rfl, rfl, rfl⟩ | ⟨rfl, rfl, rfl⟩ | ⟨rfl, rfl, rfl⟩ | ⟨rfl, rfl, rfl⟩
  · exact ⟨0, by decide, key 0 (by simp [stepTW]), rfl⟩
  · exact ⟨1, by decide, key 1 (by simp [stepTW, hx]), rfl⟩
  · exact ⟨2, by decide, key 2 (by simp [stepTW]), rfl⟩
  · exact ⟨3, by decide, key 3 (by simp [stepTW]), rfl⟩
  · exact ⟨4, by decide, key 4 (by simp [stepTW]), rfl⟩
  · exact ⟨5, by decide, key 5 (by simp [stepTW]), rfl⟩
theorem feA_anti {s r : Sg} {j k : Nat} (h : j ≤ k) (hk : k ≤ 6) : feA 1048576 k s r ≤ feA 1048576 j s r := by
  induction h with
  | refl => exact Int.le_refl _
  | step h ih =>
    refine Int.le_trans ?_ (ih (by omega))
    rw [feA_succ (by omega)]
    unfold stepMin
    split <;> omega
theorem fe_step_le {s r a b : Sg} {k : Nat} (hk : k < 6) (h : stepR (k : Int) s r = (a, b, true)) : fe 1048576 s r ≤ cost (k : Int) + fe 1048576 a b := by
  have h1 := fe_eq_step (F := 1048576) h hk
  have h2 := feA_anti (s := s) (r := r) (show k + 1 ≤ 6 by omega) (Nat.le_refl _)
  rw [fe_six] at h2
  omega
theorem fe_nil : fe 1048576 [] [] = 0 := rfl
theorem fe_le {s r : Sg} {n : Int} (h : Ex s r n) : fe 1048576 s r ≤ n := by
  induction h with
  | nil => rw [fe_nil]; omega
  | @cons t wr s r c n hp h' ih =>
    obtain ⟨k, hk, hst, hc⟩ := pc_step (s := s) (r := r) hp
    have := fe_step_le hk hst
    omega
theorem ex_refl : ∀ s : Sg, Ex s s 0
  | [] => .nil
  | x :: s => by
    have := Ex.cons (t := [x]) (wr := [x]) (c := 0) (.inl ⟨x, rfl, rfl, rfl⟩) (ex_refl s)
    exact this
end Go.Proofs.YtbikicakdkbcgacGreat
