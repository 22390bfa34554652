/- Contracts. -/
import Derived.Test.YtekkdhpgcilpdaaGreatF6
set_option linter.unusedVariables false
set_option linter.unusedSimpArgs false
namespace Go.Proofs.YtekkdhpgcilpdaaGreat
open Go Go.RowKit Go.Gv Go.Fl

def part (t : List Int) (f m : Nat) : List Int := (t.drop f).take m
theorem part_le {t : List Int} {f m : Nat} (h : m ≤ 9) : (part t f m).length ≤ 9 := by rw [part, List.length_take]; omega
theorem part_step {xs : List Int} {f k : Nat} (hf : f ≤ k) (hk : k < xs.length) : (xs.drop f).take (k - f) ++ [xs.getD k 0] = (xs.drop f).take (k + 1 - f) := by
  have h : k + 1 - f = (k - f) + 1 := by omega
  rw [h, List.take_add_one, List.getElem?_drop, show f + (k - f) = k by omega, List.getElem?_eq_getElem hk, List.getD_eq_getElem?_getD, List.getElem?_eq_getElem hk]; rfl
theorem part_end {xs : List Int} {f m k : Nat} (hf : f ≤ k) (h1 : k ≤ f + m) (h2 : k = f + m ∨ xs.length ≤ k) : (xs.drop f).take (k - f) = part xs f m := by
  unfold part
  rcases h2 with h | h
  · rw [h, Nat.add_sub_cancel_left]
  · rw [List.take_of_length_le (by rw [List.length_drop]; omega), List.take_of_length_le (by rw [List.length_drop]; omega)]
def decidesB (T : List (List Int)) (f m : Nat) : Bool := decide ((T.map fun t => part t f m).Nodup)
theorem nodup_iff {L : List SV} {f m : Nat} : decidesB (L.map (·.xs)) f m = true ↔ ∀ i, i < L.length → ∀ j, j < i → part (L.getD i sv0).xs f m ≠ part (L.getD j sv0).xs f m := by
  unfold decidesB
  rw [decide_eq_true_eq, List.Nodup, List.pairwise_iff_getElem]
  have hg : ∀ i (hi : i < L.length), L.getD i sv0 = L[i] := fun i hi => by rw [List.getD_eq_getElem?_getD, List.getElem?_eq_getElem hi]; rfl
  constructor
  · intro h i hi j hj
    have := h j i (by simp; omega) (by simpa using hi) hj
    rw [hg i hi, hg j (by omega)]
    intro he
    apply this
    simp only [List.getElem_map]
    exact he.symm
  · intro h i j hi hj hij
    have hi' : i < L.length := by simpa using hi
    have hj' : j < L.length := by simpa using hj
    have := h j hj' i hij
    rw [hg i hi', hg j hj'] at this
    simp only [List.getElem_map]
    exact fun he => this he.symm
theorem dec_bad {L : List SV} {f m i j : Nat} (hi : i < L.length) (hj : j < i) (h : part (L.getD i sv0).xs f m = part (L.getD j sv0).xs f m) : decidesB (L.map (·.xs)) f m = false := by
  cases hd : decidesB (L.map (·.xs)) f m with
  | false => rfl
  | true => exact absurd h (nodup_iff.1 hd i hi j hj)
theorem dec_good {L : List SV} {f m : Nat} (h : ∀ i, i < L.length → ∀ j, j < i → part (L.getD i sv0).xs f m ≠ part (L.getD j sv0).xs f m) : decidesB (L.map (·.xs)) f m = true := nodup_iff.2 h
def listFault (T : List (List Int)) : Int :=
  if 64 < T.length ∨ T.all (fun t => decide (t.length ≤ 5)) = false then 3
  else if T = [] ∨ T.all (fun t => t.all (fun n => decide (0 ≤ n) && decide (n ≤ 5))) = false then 2 else if decidesB T 0 5 = false then 6 else 0
theorem lf_many {L : List SV} (h : 64 < L.length) : listFault (L.map (·.xs)) = 3 := by
  unfold listFault; rw [if_pos (.inl (by rw [List.length_map]; exact h))]
theorem lf_long {L : List SV} {i : Nat} (hi : i < L.length) (h : 5 < (L.getD i sv0).xs.length) : listFault (L.map (·.xs)) = 3 := by
  have : (L.map (·.xs)).all (fun t => decide (t.length ≤ 5)) = false := by
    rw [List.all_map]
    exact all_bad (d := sv0) hi (by show decide ((L.getD i sv0).xs.length ≤ 5) = false; rw [decide_eq_false_iff_not]; omega)
  unfold listFault
  rw [if_pos (.inr this)]
theorem lf_no3 {L : List SV} (h64 : L.length ≤ 64) (h5 : (L.map (·.xs)).all (fun t => decide (t.length ≤ 5)) = true) : ¬ (64 < (L.map (·.xs)).length ∨ (L.map (·.xs)).all (fun t => decide (t.length ≤ 5)) = false) := by
  rw [List.length_map, h5]; simp; omega
theorem lf_bad {L : List SV} {i k : Nat} (h64 : L.length ≤ 64) (h5 : (L.map (·.xs)).all (fun t => decide (t.length ≤ 5)) = true) (hi : i < L.length) (hk : k < (L.getD i sv0).xs.length)
    (h : (decide (0 ≤ (L.getD i sv0).xs.getD k 0) && decide ((L.getD i sv0).xs.getD k 0 ≤ 5)) = false) : listFault (L.map (·.xs)) = 2 := by
  have : (L.map (·.xs)).all (fun t => t.all (fun n => decide (0 ≤ n) && decide (n ≤ 5))) = false := by
    rw [List.all_map]
    exact all_bad (d := sv0) hi (all_bad (d := 0) (p := fun n => decide (0 ≤ n) && decide (n ≤ 5)) hk h)
  unfold listFault
  rw [if_neg (lf_no3 h64 h5), if_pos (.inr this)]
theorem lf_none {L : List SV} (h : L.length = 0) : listFault (L.map (·.xs)) = 2 := by
  have : L = [] := List.eq_nil_of_length_eq_zero h
  subst this; rfl
theorem lf_no2 {L : List SV} (h5 : (L.map (·.xs)).all (fun t => t.all (fun n => decide (0 ≤ n) && decide (n ≤ 5))) = true) (h0 : L.length ≠ 0) : ¬ (L.map (·.xs) = [] ∨ (L.map (·.xs)).all (fun t => t.all (fun n => decide (0 ≤ n) && decide (n ≤ 5))) = false) := by
  rw [h5]; simp; intro h; subst h; exact h0 rfl
theorem lf_six {L : List SV} (h64 : L.length ≤ 64) (h5 : (L.map (·.xs)).all (fun t => decide (t.length ≤ 5)) = true) (hr : (L.map (·.xs)).all (fun t => t.all (fun n => decide (0 ≤ n) && decide (n ≤ 5))) = true) (h0 : L.length ≠ 0) (hd : decidesB (L.map (·.xs)) 0 5 = false) : listFault (L.map (·.xs)) = 6 := by
  unfold listFault; rw [if_neg (lf_no3 h64 h5), if_neg (lf_no2 hr h0), if_pos hd]
theorem lf_ok {L : List SV} (h64 : L.length ≤ 64) (h5 : (L.map (·.xs)).all (fun t => decide (t.length ≤ 5)) = true) (hr : (L.map (·.xs)).all (fun t => t.all (fun n => decide (0 ≤ n) && decide (n ≤ 5))) = true) (h0 : L.length ≠ 0) (hd : decidesB (L.map (·.xs)) 0 5 = true) : listFault (L.map (·.xs)) = 0 := by
  unfold listFault; rw [if_neg (lf_no3 h64 h5), if_neg (lf_no2 hr h0), if_neg (by rw [hd]; simp)]



end Go.Proofs.YtekkdhpgcilpdaaGreat
