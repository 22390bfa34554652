/- Contracts. -/
import Derived.Test.YtekkdhpgcilpdaaGreatM18
set_option linter.unusedVariables false
set_option linter.unusedSimpArgs false
namespace Go.Proofs.YtekkdhpgcilpdaaGreat
open Go Go.RowKit Go.Gv Go.Fl
/-! ### Without some records -/
section
variable {can can' : Nat → Int → Bool} {m : Nat} {out : Nat → Bool}
end
section
variable {xs : List Int} {R : List RC} {k r : Nat} {l : Lg}
/-- a log with other records -/
def withR (l : Lg) (R : List RC) : Lg := ⟨l.co, l.er, l.se, l.J, R⟩
theorem withR_ok (h : faultM l = 0) (hl : R.length ≤ 6) (hr : ∀ r ∈ R, okRC l.se.length r = true) : faultM (withR l R) = 0 := by
  unfold faultM at h
  split at h
  · cases h
  · rename_i h1
    split at h
    · rename_i h2; exact absurd h h2
    · rename_i h2
      split at h
      · rename_i h3
        unfold faultM withR
        dsimp only
        rw [if_neg (by omega), if_neg h2, if_pos]
        simp only [Bool.and_eq_true] at h3 ⊢
        exact ⟨h3.1, h3.2.1, List.all_eq_true.2 hr⟩
      · cases h
end
section
variable {l : Lg} {t xs : List Int} {co : List Sg} {er : Int} {se : List Int} {sl : List SN} {rl : List RC}
end


end Go.Proofs.YtekkdhpgcilpdaaGreat
