/- Contracts. -/
import Derived.Test.YtekkdhpgcilpdaaGreatM15
set_option linter.unusedVariables false
set_option linter.unusedSimpArgs false
namespace Go.Proofs.YtekkdhpgcilpdaaGreat
open Go Go.RowKit Go.Gv Go.Fl
def wr (n : Int) : Int := IntKind.i64.wrap n
section
variable {co : List Sg} {er er2 : Int} {se : List Int} {sl : List SN} {rl : List RC} {k : Nat} {b : Int} {r : RC}
end


end Go.Proofs.YtekkdhpgcilpdaaGreat
set_option linter.unusedVariables false
set_option linter.unusedSimpArgs false
namespace Go.Proofs.YtekkdhpgcilpdaaGreat
open Go Go.RowKit Go.Gv Go.Fl

section
variable {can can' : Nat → Int → Bool} {m k : Nat} {out out' : Nat → Bool} {a : List Int}
end
section
variable {l x : Lg} {more : RC} {r : Nat} {b : Int}
end
section
variable {l x : Lg}
theorem leave_nil (hn : l.R.length ≤ 1000) : leaveM l = [] ↔ asgM l noB ≠ [] := by
  obtain ⟨s, h1, h2, h3, h4⟩ := leave_spec (Q := leavQ (canB l) l.J.length l.R.length) (n := l.R.length) leavQ_all
  have he : leaveM l = s := by unfold leaveM; rw [h1]; rfl
  rw [he]
  constructor
  · rintro rfl
    exact (leavQ_iff hn).1 h3
  · intro ha
    have h5 := h4 [] (ris_iff.2 ⟨List.Pairwise.nil, fun x hx => by simp at hx⟩) ((leavQ_iff hn).2 ha)
    rw [← Bool.not_eq_true, ltL_lex] at h5
    cases s with
    | nil => rfl
    | cons y t => exact absurd (.inl (by simp)) h5
end



end Go.Proofs.YtekkdhpgcilpdaaGreat
