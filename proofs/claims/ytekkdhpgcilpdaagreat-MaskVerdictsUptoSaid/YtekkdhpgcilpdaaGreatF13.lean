/- Contracts. -/
import Derived.Test.YtekkdhpgcilpdaaGreatF12
set_option linter.unusedVariables false
set_option linter.unusedSimpArgs false
namespace Go.Proofs.YtekkdhpgcilpdaaGreat
open Go Go.RowKit Go.Gv Go.Fl

/-- the row of nothing that is sent -/
def bv (rd : Sg) : Nat → Int
  | 0 => 0
  | k + 1 => if k + 1 ≤ rd.length ∧ rd.getD k 0 = 32 then min 1048576 (bv rd k + 1) else 1048576
def bl (rd : Sg) (k : Nat) : List Int := (List.range k).map (bv rd) ++ List.replicate (41 - k) 0
def begunL (rd : Sg) : List Int := bl rd 41
theorem bl_len (rd : Sg) (k : Nat) (hk : k ≤ 41 := by omega) : (bl rd k).length = 41 := by simp [bl]; omega
theorem bv_bounds (rd : Sg) : ∀ k, 0 ≤ bv rd k ∧ bv rd k ≤ 1048576
  | 0 => by simp [bv]
  | k + 1 => by have := bv_bounds rd k; unfold bv; split <;> omega
theorem bl_get {rd : Sg} {k i : Nat} (hi : i < k) (hk : k ≤ 41) : (bl rd k).getD i 0 = bv rd i := by
  unfold bl
  rw [List.getD_eq_getElem?_getD, List.getElem?_append_left (by simpa using hi)]
  simp [hi]
theorem bl_set {rd : Sg} {k : Nat} (hk : k < 41) : (bl rd k).set k (bv rd k) = bl rd (k + 1) := by
  unfold bl
  rw [List.set_append_right _ _ (by simp)]
  have : 41 - k = (41 - (k + 1)) + 1 := by omega
  rw [this, List.replicate_succ, List.range_succ]
  simp
theorem bl_next1 {rd : Sg} {k : Nat} (h1 : 1 ≤ k) (h2 : k < 41) (hl : k ≤ rd.length) (hb : rd.getD (k - 1) 0 = 32) :
    ((bl rd k).set k 1048576).set k (minOf [1048576, ((bl rd k).set k 1048576).getD ((k : Int) - 1).toNat 0 + 1]) = bl rd (k + 1) := by
  have hkm : ((k : Int) - 1).toNat = k - 1 := by omega
  rw [hkm, Gv.getD_set_ne (by omega), bl_get (by omega) (by omega), List.set_set, min_two, ← bl_set h2]
  obtain ⟨j, rfl⟩ : ∃ j, k = j + 1 := ⟨k - 1, by omega⟩
  rw [bv, if_pos ⟨hl, by simpa using hb⟩]
  simp
theorem bl_next0 {rd : Sg} {k : Nat} (h1 : 1 ≤ k) (h2 : k < 41) (h : rd.length < k ∨ rd.getD (k - 1) 0 ≠ 32) : (bl rd k).set k 1048576 = bl rd (k + 1) := by
  rw [← bl_set h2]
  obtain ⟨j, rfl⟩ : ∃ j, k = j + 1 := ⟨k - 1, by omega⟩
  rw [bv, if_neg]
  rintro ⟨h3, h4⟩
  rcases h with h | h
  · omega
  · exact h (by simpa using h4)



end Go.Proofs.YtekkdhpgcilpdaaGreat
