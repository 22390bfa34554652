/- Contracts. -/
import Derived.Test.YtekkdhpgcilpdaaGreatM14
set_option linter.unusedVariables false
set_option linter.unusedSimpArgs false
namespace Go.Proofs.YtekkdhpgcilpdaaGreat
open Go Go.RowKit Go.Gv Go.Fl
section
variable {l : Lg} {r : Nat}
theorem masked_2 (h0 : faultM l = 0) (hr : r < l.R.length) : (maskedM l (r : Int)).2 = if falB l (l.R.getD r rcd0) = true then 0 else 7 := by
  unfold maskedM
  rw [if_neg (fun h => h (asked_C h0 ⟨by omega, by omega⟩)), Int.toNat_natCast]
  have h1 := mask_some (l := l) (r := l.R.getD r rcd0)
  cases h2 : maskO l (l.R.getD r rcd0) with
  | none => rw [h2] at h1; have h3 : falB l (l.R.getD r rcd0) = false := h1.symm; rw [if_neg (by rw [h3]; decide)]
  | some t => rw [h2] at h1; have h3 : falB l (l.R.getD r rcd0) = true := h1.symm; rw [if_pos h3]
end
end Go.Proofs.YtekkdhpgcilpdaaGreat
