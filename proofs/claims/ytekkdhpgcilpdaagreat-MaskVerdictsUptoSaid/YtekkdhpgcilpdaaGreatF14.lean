/- Contracts. -/
import Derived.Test.YtekkdhpgcilpdaaGreatF13
set_option linter.unusedVariables false
set_option linter.unusedSimpArgs false
namespace Go.Proofs.YtekkdhpgcilpdaaGreat
open Go Go.RowKit Go.Gv Go.Fl

def sg1 (rd : Sg) (R B : List Int) (la sg : UInt8) (k : Nat) : Int := R.getD k 0 + 1
def sg2 (rd : Sg) (R B : List Int) (la sg : UInt8) (k : Nat) : Int := if 0 < k ∧ ((rd.getD (k - 1) 0).toNat : Int) = (sg.toNat : Int) then min (sg1 rd R B la sg k) (R.getD (k - 1) 0) else sg1 rd R B la sg k
def sg3 (rd : Sg) (R B : List Int) (la sg : UInt8) (k : Nat) : Int := if 1 < k ∧ (sg.toNat : Int) = 45 ∧ (rd.take k).drop (k - 2) = [46, 46] then min (sg2 rd R B la sg k) (R.getD (k - 2) 0 + 1) else sg2 rd R B la sg k
def sg4 (rd : Sg) (R B : List Int) (la sg : UInt8) (k : Nat) : Int := if 0 < k ∧ (sg.toNat : Int) = 46 ∧ (la.toNat : Int) = 46 ∧ ((rd.getD (k - 1) 0).toNat : Int) = 45 then min (sg3 rd R B la sg k) (B.getD (k - 1) 0 + 1) else sg3 rd R B la sg k
def sgv (rd : Sg) (R B : List Int) (la sg : UInt8) : Nat → Int
  | 0 => if rd.length < 0 then 1048576 else min (sg4 rd R B la sg 0) 1048576
  | k + 1 => if rd.length < k + 1 then 1048576 else min (if ((rd.getD k 0).toNat : Int) = 32 then min (sg4 rd R B la sg (k + 1)) (sgv rd R B la sg k + 1) else sg4 rd R B la sg (k + 1)) 1048576
def sg5 (rd : Sg) (R B : List Int) (la sg : UInt8) (k : Nat) : Int := if 0 < k ∧ ((rd.getD (k - 1) 0).toNat : Int) = 32 then min (sg4 rd R B la sg k) (sgv rd R B la sg (k - 1) + 1) else sg4 rd R B la sg k
def so (rd : Sg) (R B : List Int) (la sg : UInt8) (k : Nat) : List Int := (List.range k).map (sgv rd R B la sg) ++ List.replicate (41 - k) 0
section
variable {rd : Sg} {R B : List Int} {la sg : UInt8} {k : Nat}
theorem so_len (rd : Sg) (R B : List Int) (la sg : UInt8) (k : Nat) (hk : k ≤ 41 := by omega) : (so rd R B la sg k).length = 41 := by simp [so]; omega
theorem sg_bounds (hR : ∀ i, 0 ≤ R.getD i 0 ∧ R.getD i 0 ≤ 1048576) (hB : ∀ i, 0 ≤ B.getD i 0 ∧ B.getD i 0 ≤ 1048576) (rd : Sg) (la sg : UInt8) (k : Nat) : (0 ≤ sg4 rd R B la sg k ∧ sg4 rd R B la sg k ≤ 1048577) := by
  have h1 := hR k; have h2 := hR (k - 1); have h3 := hR (k - 2); have h4 := hB (k - 1)
  unfold sg4 sg3 sg2 sg1
  repeat' split
  all_goals omega
theorem sgv_bounds (hR : ∀ i, 0 ≤ R.getD i 0 ∧ R.getD i 0 ≤ 1048576) (hB : ∀ i, 0 ≤ B.getD i 0 ∧ B.getD i 0 ≤ 1048576) (rd : Sg) (la sg : UInt8) : ∀ k, 0 ≤ sgv rd R B la sg k ∧ sgv rd R B la sg k ≤ 1048576
  | 0 => by have := sg_bounds hR hB rd la sg 0; unfold sgv; split <;> omega
  | k + 1 => by
    have := sg_bounds hR hB rd la sg (k + 1); have h2 := sgv_bounds hR hB rd la sg k; unfold sgv
    repeat' split
    all_goals omega
theorem so_get {i : Nat} (hi : i < k) : (so rd R B la sg k).getD i 0 = sgv rd R B la sg i := by
  unfold so
  rw [List.getD_eq_getElem?_getD, List.getElem?_append_left (by simpa using hi)]
  simp [hi]
theorem so_set (hk : k < 41) : (so rd R B la sg k).set k (sgv rd R B la sg k) = so rd R B la sg (k + 1) := by
  unfold so
  rw [List.set_append_right _ _ (by simp)]
  have : 41 - k = (41 - (k + 1)) + 1 := by omega
  rw [this, List.replicate_succ, List.range_succ]
  simp
theorem sgj {l : List Int} {x a : Int} (h : k < l.length) : (l.set k x).set k (minOf [(l.set k x).getD k 0, a]) = l.set k (min x a) := by
  rw [List.set_set, getD_set_eq h, min_two]
theorem blk_eq {w : World} {b : Nat} {l l' : List Int} (h : l = l') (hb : Blk w b (l.map vint)) : Blk w b (l'.map vint) := h ▸ hb
theorem so_pos (hk : k < 41) (x : Int) : k < ((so rd R B la sg k).set k x).length ∧ k < (so rd R B la sg k).length := by
  rw [List.length_set, so_len _ _ _ _ _ _ (by omega)]; exact ⟨hk, hk⟩
theorem sg2_yes (hk : k < 41) (h : 0 < k ∧ ((rd.getD (k - 1) 0).toNat : Int) = (sg.toNat : Int)) :
    (((so rd R B la sg k).set k 1048576).set k (sg1 rd R B la sg k)).set k (minOf [(((so rd R B la sg k).set k 1048576).set k (sg1 rd R B la sg k)).getD k 0, R.getD ((k : Int) - 1).toNat 0]) = (so rd R B la sg k).set k (sg2 rd R B la sg k) := by
  rw [sgj (so_pos hk _).1, List.set_set, sg2, if_pos h, show ((k : Int) - 1).toNat = k - 1 by omega]
theorem sg2_no (h : ¬ (0 < k ∧ ((rd.getD (k - 1) 0).toNat : Int) = (sg.toNat : Int))) : ((so rd R B la sg k).set k 1048576).set k (sg1 rd R B la sg k) = (so rd R B la sg k).set k (sg2 rd R B la sg k) := by
  rw [List.set_set, sg2, if_neg h]
theorem sg3_yes (hk : k < 41) (h : 1 < k ∧ (sg.toNat : Int) = 45 ∧ (rd.take k).drop (k - 2) = [46, 46]) :
    ((so rd R B la sg k).set k (sg2 rd R B la sg k)).set k (minOf [((so rd R B la sg k).set k (sg2 rd R B la sg k)).getD k 0, R.getD ((k : Int) - 2).toNat 0 + 1]) = (so rd R B la sg k).set k (sg3 rd R B la sg k) := by
  rw [sgj (so_pos hk 0).2, sg3, if_pos h, show ((k : Int) - 2).toNat = k - 2 by omega]
theorem sg3_no (h : ¬ (1 < k ∧ (sg.toNat : Int) = 45 ∧ (rd.take k).drop (k - 2) = [46, 46])) : (so rd R B la sg k).set k (sg2 rd R B la sg k) = (so rd R B la sg k).set k (sg3 rd R B la sg k) := by rw [sg3, if_neg h]
theorem sg4_yes (hk : k < 41) (h : 0 < k ∧ (sg.toNat : Int) = 46 ∧ (la.toNat : Int) = 46 ∧ ((rd.getD (k - 1) 0).toNat : Int) = 45) :
    ((so rd R B la sg k).set k (sg3 rd R B la sg k)).set k (minOf [((so rd R B la sg k).set k (sg3 rd R B la sg k)).getD k 0, B.getD ((k : Int) - 1).toNat 0 + 1]) = (so rd R B la sg k).set k (sg4 rd R B la sg k) := by
  rw [sgj (so_pos hk 0).2, sg4, if_pos h, show ((k : Int) - 1).toNat = k - 1 by omega]
theorem sg4_no (h : ¬ (0 < k ∧ (sg.toNat : Int) = 46 ∧ (la.toNat : Int) = 46 ∧ ((rd.getD (k - 1) 0).toNat : Int) = 45)) : (so rd R B la sg k).set k (sg3 rd R B la sg k) = (so rd R B la sg k).set k (sg4 rd R B la sg k) := by rw [sg4, if_neg h]
theorem sg5_yes (hk : k < 41) (h : 0 < k ∧ ((rd.getD (k - 1) 0).toNat : Int) = 32) :
    ((so rd R B la sg k).set k (sg4 rd R B la sg k)).set k (minOf [((so rd R B la sg k).set k (sg4 rd R B la sg k)).getD k 0, ((so rd R B la sg k).set k (sg4 rd R B la sg k)).getD ((k : Int) - 1).toNat 0 + 1]) = (so rd R B la sg k).set k (sg5 rd R B la sg k) := by
  rw [sgj (so_pos hk 0).2, show ((k : Int) - 1).toNat = k - 1 by omega, Gv.getD_set_ne (by omega), so_get (by omega), sg5, if_pos h]
theorem sg5_no (h : ¬ (0 < k ∧ ((rd.getD (k - 1) 0).toNat : Int) = 32)) : (so rd R B la sg k).set k (sg4 rd R B la sg k) = (so rd R B la sg k).set k (sg5 rd R B la sg k) := by rw [sg5, if_neg h]
theorem sgv_far (h : rd.length < k) : sgv rd R B la sg k = 1048576 := by cases k <;> (unfold sgv; rw [if_pos h])
theorem sgv_eq (h : k ≤ rd.length) : sgv rd R B la sg k = min (sg5 rd R B la sg k) 1048576 := by
  cases k with
  | zero => unfold sgv sg5; rw [if_neg (by omega), if_neg (by omega)]
  | succ k =>
    rw [sgv, if_neg (by omega), sg5]
    congr 1
    by_cases hb : ((rd.getD k 0).toNat : Int) = 32
    · rw [if_pos hb, if_pos ⟨by omega, by simpa using hb⟩]; rfl
    · rw [if_neg hb, if_neg (fun h => hb (by simpa using h.2))]
theorem so_far (hk : k < 41) (h : rd.length < k) : (so rd R B la sg k).set k 1048576 = so rd R B la sg (k + 1) := by rw [← so_set hk, sgv_far h]
theorem so_next (hk : k < 41) (h : k ≤ rd.length) : ((so rd R B la sg k).set k (sg5 rd R B la sg k)).set k (minOf [((so rd R B la sg k).set k (sg5 rd R B la sg k)).getD k 0, 1048576]) = so rd R B la sg (k + 1) := by
  rw [sgj (so_pos hk 0).2, ← so_set hk, sgv_eq h]
end



end Go.Proofs.YtekkdhpgcilpdaaGreat
