/- Contracts. -/
import Derived.Test.YtekkdhpgcilpdaaGreatM18
set_option linter.unusedVariables false
set_option linter.unusedSimpArgs false
namespace Go.Proofs.YtekkdhpgcilpdaaGreat
open Go Go.RowKit Go.Gv Go.Fl
/-! ### Without some records -/
section
variable {can can' : Nat → Int → Bool} {m : Nat} {out : Nat → Bool}
end
section
variable {xs : List Int} {R : List RC} {k r : Nat} {l : Lg}
theorem left_len : (leaveM l).length ≤ l.R.length := by
  obtain ⟨x, h1, h2, _⟩ := leave_spec (Q := leavQ (canB l) l.J.length l.R.length) (n := l.R.length) leavQ_all
  have he : leaveM l = x := by unfold leaveM; rw [h1]; rfl
  rw [he]
  exact ris_len h2
end
section
variable {l : Lg} {t xs : List Int} {co : List Sg} {er : Int} {se : List Int} {sl : List SN} {rl : List RC}
end


end Go.Proofs.YtekkdhpgcilpdaaGreat
