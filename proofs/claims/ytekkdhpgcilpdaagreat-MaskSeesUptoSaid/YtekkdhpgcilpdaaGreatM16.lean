/- Contracts. -/
import Derived.Test.YtekkdhpgcilpdaaGreatM15
set_option linter.unusedVariables false
set_option linter.unusedSimpArgs false
namespace Go.Proofs.YtekkdhpgcilpdaaGreat
open Go Go.RowKit Go.Gv Go.Fl
def wr (n : Int) : Int := IntKind.i64.wrap n
section
variable {co : List Sg} {er er2 : Int} {se : List Int} {sl : List SN} {rl : List RC} {k : Nat} {b : Int} {r : RC}
theorem leav_0 {l : Lg} (h : faultM l = 0) : (leavW l).2 = 0 := by unfold leavW; rw [if_neg (fun h3 => h3 h)]
theorem leav_1 {l : Lg} (h : faultM l = 0) : (leavW l).1 = leaveM l := by unfold leavW; rw [if_neg (fun h3 => h3 h)]
theorem leave_is {l : Lg} : leaveA (leavQ (canB l) l.J.length l.R.length) l.R.length = some (leaveM l) := by
  obtain ⟨x, h1, _⟩ := leave_spec (Q := leavQ (canB l) l.J.length l.R.length) (n := l.R.length) leavQ_all
  unfold leaveM; rw [h1]; rfl
end


end Go.Proofs.YtekkdhpgcilpdaaGreat
