/- Contracts. -/
import Derived.Test.YtfbjllabgkabkaaE4
set_option linter.unusedVariables false
set_option linter.unusedSimpArgs false
namespace Go.Proofs.Ytfbjllabgkabkaa
open Go Go.RowKit Go.Gv Go.Fl

/-- the digits of n to the base N, so many -/
def nthL (N : Nat) : Nat → Nat → List Int
  | 0, _ => []
  | d + 1, n => nthL N d (n / N) ++ [(n : Int) % (N : Int)]
theorem nthL_len (N : Nat) : ∀ d n, (nthL N d n).length = d
  | 0, _ => rfl
  | d + 1, n => by unfold nthL; rw [List.length_append, nthL_len N d]; rfl
theorem nthL_lt {N : Nat} (h : 0 < N) : ∀ d n, ∀ x ∈ nthL N d n, 0 ≤ x ∧ x < (N : Int)
  | 0, _, x, hx => by unfold nthL at hx; simp at hx
  | d + 1, n, x, hx => by
    unfold nthL at hx
    rcases List.mem_append.1 hx with hx | hx
    · exact nthL_lt h d _ x hx
    · rw [List.mem_singleton.1 hx]
      exact ⟨Int.emod_nonneg _ (by omega), Int.emod_lt_of_pos _ (by omega)⟩
theorem nthL_text {c : List Sg} (h : 0 < c.length) (d n : Nat) : isText c (nthL c.length d n) = true := isText_iff.2 (nthL_lt h d n)
theorem nth_set {m : Nat} {D : List Int} {v : Int} : (List.replicate (m + 1) 0 ++ D).set (0 + m) v = List.replicate m 0 ++ v :: D := by
  rw [Nat.zero_add, List.replicate_succ', List.append_assoc, List.set_append_right _ _ (by rw [List.length_replicate]; exact Nat.le_refl _), List.length_replicate, Nat.sub_self]
  rfl
theorem words_snoc (N : Nat) : ∀ d, words N (d + 1) = (words N d).flatMap (fun u => (List.range N).map (fun (i : Nat) => u ++ [(i : Int)]))
  | 0 => by
    simp only [words, List.map_cons, List.map_nil, List.flatMap_cons, List.flatMap_nil, List.append_nil, List.nil_append]
    rw [List.map_eq_flatMap]
  | d + 1 => by
    have h : ∀ i : Nat, (words N (d + 1)).map ((i : Int) :: ·) = (words N d).flatMap (fun u => (List.range N).map (fun (j : Nat) => ((i : Int) :: u) ++ [(j : Int)])) := by
      intro i
      rw [words_snoc N d, List.map_flatMap]
      congr 1
      funext u
      rw [List.map_map]
      rfl
    have h1 : words N (d + 1 + 1) = (List.range N).flatMap (fun (i : Nat) => (words N (d + 1)).map ((i : Int) :: ·)) := rfl
    have h2 : words N (d + 1) = (List.range N).flatMap (fun (i : Nat) => (words N d).map ((i : Int) :: ·)) := rfl
    rw [h1, show (fun (i : Nat) => (words N (d + 1)).map ((i : Int) :: ·)) = _ from funext h]
    conv => rhs; rw [h2, List.flatMap_assoc]
    congr 1
    funext i
    rw [List.flatMap_map]
theorem range_mul {α : Type} (N : Nat) (f : Nat → α) : ∀ M, (List.range (M * N)).map f = (List.range M).flatMap (fun q => (List.range N).map (fun r => f (q * N + r)))
  | 0 => by simp
  | M + 1 => by
    rw [Nat.succ_mul, List.range_succ, List.flatMap_append, ← range_mul N f M, List.range_add, List.map_append, List.map_map]
    simp [Function.comp_def]
theorem nth_words {N : Nat} (h : 0 < N) : ∀ d, (List.range (N ^ d)).map (nthL N d) = words N d
  | 0 => rfl
  | d + 1 => by
    rw [Nat.pow_succ, range_mul, words_snoc, ← nth_words h d, List.flatMap_map]
    congr 1
    funext q
    refine List.map_congr_left fun r hr => ?_
    have hr := List.mem_range.1 hr
    have h1 : (q * N + r) / N = q := by rw [Nat.add_comm, Nat.add_mul_div_right _ _ h, Nat.div_eq_of_lt hr, Nat.zero_add]
    have h2 : ((q * N + r : Nat) : Int) % (N : Int) = (r : Int) := by
      rw [← Int.natCast_emod, Nat.add_comm, Nat.add_mul_mod_self_right, Nat.mod_eq_of_lt hr]
    rw [nthL, h1, h2]
theorem pow_small {N m : Nat} (hN : N ≤ 3) (hm : m ≤ 3) : N ^ m ≤ 27 := Nat.le_trans (Nat.pow_le_pow_left hN m) (Nat.le_trans (Nat.pow_le_pow_right (by decide) hm) (by decide))
/-- what is kept of the first n texts of m letters -/
def keptN (c : List Sg) (rd : Sg) (er : Int) (m n : Nat) : List (List Int) := ((List.range n).map (nthL c.length m)).filter (fun u => decide (fe 1048576 (signs c u) rd ≤ er))
theorem kept_all {c : List Sg} {rd : Sg} {er : Int} (h : 0 < c.length) (m : Nat) : keptN c rd er m (c.length ^ m) = textsOf c rd er m := by unfold keptN textsOf; rw [nth_words h]
theorem kept_yes {c : List Sg} {rd : Sg} {er : Int} {m n : Nat} (h : fe 1048576 (signs c (nthL c.length m n)) rd ≤ er) : keptN c rd er m (n + 1) = keptN c rd er m n ++ [nthL c.length m n] := by
  unfold keptN
  rw [List.range_succ, List.map_append, List.filter_append, List.map_cons, List.map_nil, List.filter_cons_of_pos (by simpa using h)]; rfl
theorem kept_no {c : List Sg} {rd : Sg} {er : Int} {m n : Nat} (h : ¬ fe 1048576 (signs c (nthL c.length m n)) rd ≤ er) : keptN c rd er m (n + 1) = keptN c rd er m n := by
  unfold keptN
  rw [List.range_succ, List.map_append, List.filter_append, List.map_cons, List.map_nil, List.filter_cons_of_neg (by simpa using h)]; simp
theorem kept_len (c : List Sg) (rd : Sg) (er : Int) (m n : Nat) : (keptN c rd er m n).length ≤ n := by
  unfold keptN
  refine Nat.le_trans (List.length_filter_le _ _) ?_
  rw [List.length_map, List.length_range]; exact Nat.le_refl _




end Go.Proofs.Ytfbjllabgkabkaa
