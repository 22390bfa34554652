/- Contracts. -/
import Derived.Test.YtgdanglidienmaaR21
set_option linter.unusedVariables false
set_option linter.unusedSimpArgs false
namespace Go.Proofs.Ytgdanglidienmaa
open Go Go.RowKit Go.Gv Go.Fl

theorem rows_same {M R : List SV} (h : M.map (·.xs) = R.map (·.xs)) (hl : R.length ≤ 2097152) (hx : ∀ s ∈ R, s.xs.length ≤ 2097152) : M.length ≤ 2097152 ∧ ∀ s ∈ M, s.xs.length ≤ 2097152 :=
  rows_small h ⟨by rw [List.length_map]; exact hl, fun t ht => by
    obtain ⟨s, hs, rfl⟩ := List.mem_map.1 ht
    exact hx s hs⟩
section
variable {nd : List Int} {pl : List PV} {L R : List SV} {T : List (List Int)}
theorem plan_IsR (h : planP (po nd pl L) T = 0) : faultP (po nd pl L) = 0 ∧ IsR nd pl.length T := by
  rw [plan_isRB] at h
  split at h
  · rename_i h1; exact absurd h h1
  · rename_i h1
    split at h
    · rename_i h2; exact ⟨by simpa using h1, isRB_iff.1 h2⟩
    · cases h
theorem plan_zero (h : faultP (po nd pl L) = 0) (hT : IsR nd pl.length T) : planP (po nd pl L) T = 0 := by
  rw [plan_isRB, if_neg (by simpa using h), if_pos (isRB_iff.2 hT)]
theorem rulesR_2 : (rulesR nd pl L T).2 = planP (po nd pl L) T := by
  unfold rulesR
  split
  · rename_i h; exact h.symm
  · rfl
theorem rulesR_t (h : planP (po nd pl L) T = 0) : (rulesR nd pl L T).1 = rulesX pl T := by
  obtain ⟨hok, hI⟩ := plan_IsR h
  obtain ⟨_, ⟨hp1, hp4⟩, _, _, hpp, _⟩ := po_ok hok
  unfold rulesR
  rw [if_pos h, rul_eq hp4 (fun x hx => (hpp x hx).2.2.1) hI.2]
theorem rulesR_f (h : ¬ planP (po nd pl L) T = 0) : (rulesR nd pl L T).1 = false := by unfold rulesR; rw [if_neg h]
theorem fails_1 {f : Int} {C : List (List Int)} : (failsX nd f T C).1 = f := by
  unfold failsX
  split
  · rename_i h; exact h.symm
  · rfl
theorem fails_2 {f : Int} {C : List (List Int)} (h : ¬ f = 0) : (failsX nd f T C).2 = [] := by unfold failsX; rw [if_neg h]
theorem fails_len {f : Int} {C : List (List Int)} (h : f = 0) : (failsX nd f T C).2.length = C.length + 1 := by unfold failsX; rw [if_pos h]; simp
theorem fails_at {f : Int} {C : List (List Int)} {c : Nat} (h : f = 0) (hc : c < C.length + 1) : (failsX nd f T C).2.getD c 0 = failX nd T C c := by
  unfold failsX
  rw [if_pos h, List.getD_eq_getElem?_getD, List.getElem?_map, List.getElem?_range hc]; rfl
theorem plan_on (h : planP (po nd pl L) (R.map (·.xs)) = 0) : ∀ s ∈ R, ∀ i ∈ s.xs, 0 ≤ i ∧ i ≤ (pl.length : Int) - 1 := fun s hs i hi => by
  obtain ⟨_, hI⟩ := plan_IsR h
  exact (ris_iff.1 (hI.2 s.xs (List.mem_map.2 ⟨s, hs, rfl⟩))).2 i hi
theorem prove_plan {n : Int} (h : ¬ planP (po nd pl L) T = 0) : proveX nd pl (L.map (·.xs)) (planP (po nd pl L) T) T n = false := by unfold proveX; rw [decide_eq_false h]; rfl
theorem prove_safe {n : Int} (h : planP (po nd pl L) T = 0) : proveX nd pl (L.map (·.xs)) (planP (po nd pl L) T) T n = (safeX nd pl (L.map (·.xs)) T && decide (dut T ≤ n)) := by
  obtain ⟨hok, hI⟩ := plan_IsR h
  obtain ⟨_, ⟨hp1, hp4⟩, _, _, hpp, _⟩ := po_ok hok
  unfold proveX
  rw [decide_eq_true h, safe_eq hp4 (fun x hx => (hpp x hx).2.2.1) hI.2]; rfl
end



end Go.Proofs.Ytgdanglidienmaa
