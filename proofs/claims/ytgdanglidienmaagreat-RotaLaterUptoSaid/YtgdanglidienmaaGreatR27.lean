/- Contracts. -/
import Derived.Test.YtgdanglidienmaaGreatRT
set_option linter.unusedVariables false
set_option linter.unusedSimpArgs false
namespace Go.Proofs.YtgdanglidienmaaGreat
open Go Go.RowKit Go.Gv Go.Fl

/-- the watch at which one falls ill, later by b -/
def ltv (b nn n : Int) : Int := if nn ≤ (if 0 ≤ n then n + b else n) then -1 else (if 0 ≤ n then n + b else n)
def latL (k : Nat) (b nn : Int) (xs : List Int) : List Int := xs.set k (ltv b nn (xs.getD k 0))
theorem ltv_1 {b nn n : Int} (h : 0 ≤ n) (h2 : nn ≤ n + b) : ltv b nn n = -1 := by unfold ltv; rw [if_pos h, if_pos h2]
theorem ltv_2 {b nn n : Int} (h : 0 ≤ n) (h2 : n + b < nn) : ltv b nn n = n + b := by unfold ltv; rw [if_pos h, if_neg (by omega)]
theorem ltv_3 {b nn n : Int} (h : n < 0) (h2 : 0 < nn) : ltv b nn n = n := by unfold ltv; rw [if_neg (by omega), if_neg (by omega)]
def LatAt (k : Nat) (b nn : Int) (c : Nat) (L M : List SV) : Prop := M.length = L.length ∧ ∀ i, i < L.length → (M.getD i sv0).xs = if i < c then latL k b nn (L.getD i sv0).xs else (L.getD i sv0).xs
section
variable {k c : Nat} {b nn : Int} {L M : List SV}
theorem lat_zero (hm : M.map (·.xs) = L.map (·.xs)) : LatAt k b nn 0 L M := by
  have hl := congrArg List.length hm
  rw [List.length_map, List.length_map] at hl
  exact ⟨hl, fun i hi => by rw [if_neg (Nat.not_lt_zero _), ← xs_at, hm, xs_at]⟩
theorem lat_step {s : SV} (h : LatAt k b nn c L M) (hc : c < L.length) (hs : s.xs = latL k b nn (M.getD c sv0).xs) : LatAt k b nn (c + 1) L (M.set c s) := ⟨by rw [List.length_set]; exact h.1, fun i hi => by
  rw [List.getD_eq_getElem?_getD, List.getElem?_set]
  by_cases h2 : c = i
  · subst h2
    rw [if_pos rfl, if_pos (by rw [h.1]; exact hc), if_pos (by omega)]
    show s.xs = _
    rw [hs, h.2 c hi, if_neg (by omega)]
  · rw [if_neg h2, ← List.getD_eq_getElem?_getD, h.2 i hi]
    by_cases h1 : i < c
    · rw [if_pos h1, if_pos (by omega)]
    · rw [if_neg h1, if_neg (by omega)]⟩
theorem ltv_rng {n : Int} (hn : -1 ≤ n ∧ n ≤ nn - 1) (hb : 0 ≤ b) (h0 : 0 < nn) : -1 ≤ ltv b nn n ∧ ltv b nn n ≤ nn - 1 := by
  unfold ltv
  split
  · omega
  · split <;> omega
theorem lat_end (h : LatAt k b nn L.length L M) : M.map (·.xs) = (L.map (·.xs)).map (latL k b nn) := by
  apply List.ext_getElem
  · rw [List.length_map, List.length_map, List.length_map, h.1]
  · intro i h1 h2
    rw [List.length_map] at h1
    have hi : i < L.length := by rw [← h.1]; exact h1
    have h3 := h.2 i hi
    rw [if_pos hi, List.getD_eq_getElem?_getD, List.getD_eq_getElem?_getD, List.getElem?_eq_getElem h1, List.getElem?_eq_getElem hi] at h3
    rw [List.getElem_map, List.getElem_map, List.getElem_map]
    exact h3
theorem lat_fault {nd : List Int} {pl : List PV} (hok : faultP (po nd pl L) = 0) (hb : 0 ≤ b) (h : LatAt k b nd.length L.length L M) : faultP (po nd pl M) = 0 := by
  obtain ⟨⟨hn1, _⟩, _⟩ := po_ok hok
  unfold faultP po at hok ⊢
  rw [lat_end h]
  simp only [List.length_map] at hok ⊢
  split at hok
  · cases hok
  · rename_i h1
    rw [if_neg h1]
    split at hok
    · rename_i h2
      rw [if_pos]
      simp only [Bool.and_eq_true] at h2 ⊢
      refine ⟨h2.1, ?_⟩
      have h3 := h2.2
      rw [List.all_eq_true] at h3 ⊢
      intro l hl
      obtain ⟨l0, hl0, rfl⟩ := List.mem_map.1 hl
      have h4 := h3 l0 hl0
      unfold okIll at h4 ⊢
      unfold latL
      rw [Bool.and_eq_true, List.all_eq_true] at h4 ⊢
      refine ⟨by rw [List.length_set]; exact h4.1, fun x hx => ?_⟩
      by_cases hk : k < l0.length
      · rcases List.mem_or_eq_of_mem_set hx with h5 | rfl
        · exact h4.2 x h5
        · have h6 := h4.2 _ (getD_lt (d := 0) hk)
          unfold illIn at h6 ⊢
          rw [Bool.and_eq_true, decide_eq_true_eq, decide_eq_true_eq] at h6 ⊢
          exact ltv_rng h6 hb (by omega)
      · rw [List.set_eq_of_length_le (by omega)] at hx
        exact h4.2 x hx
    · cases hok
end
theorem filter_mono {α : Type} {p q : α → Bool} : ∀ {l : List α}, (∀ x ∈ l, p x = true → q x = true) → (l.filter p).length ≤ (l.filter q).length
  | [], _ => Nat.le_refl _
  | x :: l, h => by
    have ih := filter_mono (l := l) (p := p) (q := q) (fun y hy => h y (List.mem_cons_of_mem _ hy))
    rw [List.filter_cons, List.filter_cons]
    by_cases hp : p x = true
    · rw [if_pos hp, if_pos (h x List.mem_cons_self hp)]
      simpa using ih
    · rw [if_neg hp]
      split
      · rw [List.length_cons]; omega
      · exact ih
theorem awk_lat {k : Nat} {b nn : Int} {fl : Bool} {ix xs : List Int} {wt : Nat} (hb : 0 ≤ b) (h0 : 0 < nn) : awkN fl ix (wt : Int) xs ≤ awkN fl (latL k b nn ix) (wt : Int) xs := by
  unfold awkN
  refine Int.ofNat_le.2 (filter_mono fun x _ h => ?_)
  unfold awkB at h ⊢
  cases fl with
  | true => rfl
  | false =>
    rw [Bool.false_or, Bool.or_eq_true, decide_eq_true_eq, decide_eq_true_eq] at h ⊢
    unfold latL
    rw [getD_set]
    split
    · rename_i h1
      rw [h1.1]
      rcases h with h2 | h2
      · left; rw [h2]; exact ltv_3 (by decide) h0
      · rcases Int.lt_or_le (ix.getD x.toNat 0 + b) nn with h3 | h3
        · right; rw [ltv_2 (by omega) h3]; omega
        · left; exact ltv_1 (by omega) h3
    · exact h
theorem awk_more {fl : Bool} {ix xs ys : List Int} {wt : Int} (h : xs.Sublist ys) : awkN fl ix wt xs ≤ awkN fl ix wt ys := Int.ofNat_le.2 (h.filter _).length_le
theorem idx_spec (p : Nat → Bool) (n : Nat) : (idxI p n = -1 ∧ ∀ i, i < n → p i = false) ∨ ∃ i, i < n ∧ idxI p n = (i : Int) ∧ p i = true ∧ ∀ j, j < i → p j = false := by
  by_cases h : idxI p n < 0
  · have h1 := idx_neg.1 h
    exact .inl ⟨idxI_none h1, h1⟩
  · right
    unfold idxI at h ⊢
    cases hf : (List.range n).find? p with
    | none => rw [hf] at h; exact absurd (by decide) h
    | some i =>
      rw [List.find?_range_eq_some] at hf
      exact ⟨i, List.mem_range.1 hf.2.1, rfl, hf.1, fun j hj => by have := hf.2.2 j hj; simpa using this⟩
/-- what fails less often fails no earlier -/
theorem idx_mono {p q : Nat → Bool} {n : Nat} (h : ∀ i, i < n → q i = true → p i = true) : (idxI p n < 0 → idxI q n < 0) ∧ (0 ≤ idxI q n → 0 ≤ idxI p n ∧ idxI p n ≤ idxI q n) := by
  rcases idx_spec p n with ⟨h1, h2⟩ | ⟨i, hi, h1, h2, h3⟩ <;> rcases idx_spec q n with ⟨h4, h5⟩ | ⟨j, hj, h4, h5, h6⟩
  · rw [h1, h4]; exact ⟨fun h => h, fun h => absurd h (by decide)⟩
  · have := h j hj h5
    rw [h2 j hj] at this; cases this
  · rw [h1, h4]; exact ⟨fun _ => by decide, fun h => absurd h (by decide)⟩
  · rw [h1, h4]
    have h7 := h j hj h5
    have h8 : i ≤ j := by
      rcases Nat.lt_or_ge j i with h9 | h9
      · rw [h3 j h9] at h7; cases h7
      · exact h9
    exact ⟨fun h => absurd h (by omega), fun _ => ⟨by omega, by omega⟩⟩
theorem fail_lat {nd : List Int} {T C : List (List Int)} {k : Nat} {b nn : Int} (hb : 0 ≤ b) (h0 : 0 < nn) (c : Nat) : (failX nd T C c < 0 → failX nd T (C.map (latL k b nn)) c < 0) ∧ (0 ≤ failX nd T (C.map (latL k b nn)) c → 0 ≤ failX nd T C c ∧ failX nd T C c ≤ failX nd T (C.map (latL k b nn)) c) := by
  unfold failX
  refine idx_mono fun i _ h => ?_
  rw [decide_eq_true_eq, List.length_map] at *
  refine Int.lt_of_le_of_lt ?_ h
  by_cases hc : c < C.length
  · have h1 : (C.map (latL k b nn)).getD c [] = latL k b nn (C.getD c []) := by
      rw [List.getD_eq_getElem?_getD, List.getElem?_map, List.getElem?_eq_getElem hc, List.getD_eq_getElem?_getD, List.getElem?_eq_getElem hc]; rfl
    rw [h1]
    exact awk_lat hb h0
  · rw [decide_eq_true (by omega)]
    unfold awkN
    exact Int.ofNat_le.2 (filter_mono fun x _ _ => rfl)
theorem fail_more {nd : List Int} {T U C : List (List Int)} (hl : U.length = T.length) (h : ∀ k, k < T.length → (T.getD k []).Sublist (U.getD k [])) (c : Nat) : (failX nd T C c < 0 → failX nd U C c < 0) ∧ (0 ≤ failX nd U C c → 0 ≤ failX nd T C c ∧ failX nd T C c ≤ failX nd U C c) := by
  unfold failX
  rw [hl]
  refine idx_mono fun i hi h2 => ?_
  rw [decide_eq_true_eq] at *
  exact Int.lt_of_le_of_lt (awk_more (h i hi)) h2
/-- one more person on duty: all of the people ahead of i who are k or were on duty -/
def addL (k : Int) (l : List Int) (i : Nat) : List Int := (upTo i).filter (fun j => decide (j = k) || hasI l j)
theorem addL_succ {k : Int} {l : List Int} {i : Nat} : addL k l (i + 1) = addL k l i ++ (if (decide ((i : Int) = k) || hasI l (i : Int)) = true then [(i : Int)] else []) := by
  unfold addL
  have h1 : upTo (i + 1) = upTo i ++ [(i : Int)] := by unfold upTo; rw [List.range_succ, List.map_append]; rfl
  rw [h1, List.filter_append, List.filter_cons]
  rfl
theorem addL_ris {k : Int} {l : List Int} {i : Nat} : risB (addL k l i) (i : Int) = true := by
  rw [ris_iff]
  exact ⟨(upTo_lt i).filter _, fun x hx => upTo_mem.1 (List.mem_filter.1 hx).1⟩
theorem addL_sub {k : Int} {l : List Int} {p : Nat} (h : risB l (p : Int) = true) : l.Sublist (addL k l p) := by
  rw [ris_iff] at h
  exact sub_of_mem ((upTo_lt p).filter _) h.1 (fun x hx => List.mem_filter.2 ⟨upTo_mem.2 (h.2 x hx), by rw [has_iff.2 hx, Bool.or_true]⟩)



end Go.Proofs.YtgdanglidienmaaGreat
