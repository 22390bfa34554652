/- Contracts. -/
import Derived.Test.YtekkdhpgcilpdaaGreatM14
set_option linter.unusedVariables false
set_option linter.unusedSimpArgs false
namespace Go.Proofs.YtekkdhpgcilpdaaGreat
open Go Go.RowKit Go.Gv Go.Fl
section
variable {l : Lg} {r : Nat}
theorem asg_none (h0 : faultM l = 0) (h : asgM l noB = []) : assignM l = ([], 11) := by
  have hr := (lg_ok h0).2.2.1
  unfold assignM
  rw [if_neg (fun h3 => h3 h0), if_pos]
  have h1 := few_never (can := canB l) (m := l.J.length) (out := noB) (k := l.R.length) (p := []) (by omega)
  have h2 := few_rng (can := canB l) (m := l.J.length) (out := noB) (k := l.R.length) (p := []) (by omega)
  by_cases h3 : fewF (canB l) l.J.length noB l.R.length [] < 1024
  · exact absurd h (h1.1 h3)
  · omega
theorem vd_err (h0 : faultM l = 0) (h : ¬ (verdW l).2 = 0) : verdW l = ([], 11) ∧ assignM l = ([], 11) := by
  by_cases ha : (List.range l.R.length).any (fun r => !(ownV l r || falV l r)) = true
  · obtain ⟨r, hr, h2⟩ := List.any_eq_true.1 ha
    have hr := List.mem_range.1 hr
    have h3 : ownV l r = false ∧ falV l r = false := by simpa using h2
    exact ⟨verdW_11 h0 hr h3.1 h3.2, asg_none h0 ((poss_none hr).2 h3)⟩
  · exfalso; apply h; unfold verdW; rw [if_neg (fun h3 => h3 h0), if_neg ha]
theorem vd_ok (h0 : faultM l = 0) (h : (verdW l).2 = 0) : verdW l = ((List.range l.R.length).map (verdV l), 0) ∧ asgM l noB ≠ [] ∧ ∀ r, r < l.R.length → (ownV l r || falV l r) = true := by
  by_cases ha : (List.range l.R.length).any (fun r => !(ownV l r || falV l r)) = true
  · exfalso; unfold verdW at h; rw [if_neg (fun h3 => h3 h0), if_pos ha] at h; cases h
  · have h1 : ∀ r, r < l.R.length → (ownV l r || falV l r) = true := fun r hr => by
      by_cases h2 : (ownV l r || falV l r) = true
      · exact h2
      · exact absurd (List.any_eq_true.2 ⟨r, List.mem_range.2 hr, by simpa using h2⟩) ha
    refine ⟨?_, fun he => ?_, h1⟩
    · unfold verdW; rw [if_neg (fun h3 => h3 h0), if_neg ha]
    · by_cases hz : l.R.length = 0
      · unfold asgM at he; rw [hz] at he; cases he
      · obtain ⟨h2, h3⟩ := (poss_none (l := l) (r := 0) (by omega)).1 he
        have := h1 0 (by omega)
        rw [h2, h3] at this; cases this
theorem verd_getD (h : verdW l = ((List.range l.R.length).map (verdV l), 0)) (hr : r < l.R.length) : (verdW l).1.getD r 0 = verdV l r := by
  rw [h, List.getD_eq_getElem?_getD, List.getElem?_map, List.getElem?_range hr]; rfl
end
end Go.Proofs.YtekkdhpgcilpdaaGreat
