/- Contracts. -/
import Derived.Test.YtbikicakdkbcgabGreatRK
set_option linter.unusedVariables false
set_option linter.unusedSimpArgs false
namespace Go.Proofs.YtbikicakdkbcgabGreat
open Go Go.RowKit Go.Gv Go.Fl

section
variable {nd : List Int} {pl : List PV} {L : List SV} {T : List (List Int)}
theorem bst_no (hok : faultP (po nd pl L) = 0) (h : ¬ (bestR nd pl L).2.2 = 0) : bestR nd pl L = ([], 0, 10) ∧ enoughR nd pl L = (10, []) := by
  rcases best_spec hok with ⟨h1, h2⟩ | ⟨R, h1, _⟩
  · refine ⟨h1, ?_⟩
    rcases enough_spec hok with ⟨h3, _⟩ | ⟨l, _, h4, h5, _⟩
    · exact h3
    · obtain ⟨R, hR, _, hc⟩ := (can_iff hok h4).1 h5
      rw [h2 R hR] at hc; cases hc
  · rw [h1] at h; exact absurd rfl h
theorem bst_yes (hok : faultP (po nd pl L) = 0) (h : (bestR nd pl L).2.2 = 0) : IsR nd pl.length (bestR nd pl L).1 ∧ chn nd pl (L.map (·.xs)) 0 stood0 (bestR nd pl L).1 = true ∧ (bestR nd pl L).2.1 = dut (bestR nd pl L).1 ∧
    ∀ R', IsR nd pl.length R' → chn nd pl (L.map (·.xs)) 0 stood0 R' = true → dut (bestR nd pl L).1 < dut R' ∨ dut (bestR nd pl L).1 = dut R' ∧ smB R' (bestR nd pl L).1 = false := by
  rcases best_spec hok with ⟨h1, _⟩ | ⟨R, h1, h2⟩
  · rw [h1] at h; exact absurd h (by decide)
  · rw [h1]; exact ⟨h2.1, h2.2.1, rfl, h2.2.2⟩
theorem bst_sm (hok : faultP (po nd pl L) = 0) : (bestR nd pl L).1.length ≤ 2097152 ∧ ∀ t ∈ (bestR nd pl L).1, t.length ≤ 2097152 := by
  obtain ⟨⟨hn1, hn5⟩, ⟨hp1, hp4⟩, _⟩ := po_ok hok
  rcases best_spec hok with ⟨h1, _⟩ | ⟨R, h1, h2, _⟩
  · rw [h1]; exact ⟨by decide, by simp⟩
  · rw [h1]
    exact ⟨by show R.length ≤ _; rw [h2.1]; omega, fun t ht => by have := ris_len (h2.2 t ht); omega⟩
theorem chn_safe (hok : faultP (po nd pl L) = 0) {C : List (List Int)} (hT : IsR nd pl.length T) : safeX nd pl C T = chn nd pl C 0 stood0 T := by
  obtain ⟨_, ⟨hp1, hp4⟩, _, _, hpp, _⟩ := po_ok hok
  exact safe_eq hp4 (fun x hx => (hpp x hx).2.2.1) hT.2
theorem safe_fail {C : List (List Int)} {c : Nat} (h : safeX nd pl C T = true) (hc : c < C.length + 1) : failX nd T C c = -1 := by
  unfold safeX at h
  rw [Bool.and_eq_true, List.all_eq_true] at h
  have h1 := of_decide_eq_true (h.1 c (List.mem_range.2 hc))
  unfold failX at h1 ⊢
  exact idxI_none (idx_neg.1 h1)
end



end Go.Proofs.YtbikicakdkbcgabGreat
