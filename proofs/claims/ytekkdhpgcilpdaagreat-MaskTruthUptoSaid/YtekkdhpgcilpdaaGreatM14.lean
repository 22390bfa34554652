/- Contracts. -/
import Derived.Test.YtekkdhpgcilpdaaGreatM12
set_option linter.unusedVariables false
set_option linter.unusedSimpArgs false
namespace Go.Proofs.YtekkdhpgcilpdaaGreat
open Go Go.RowKit Go.Gv Go.Fl
section
variable {co : List Sg} {er : Int} {se : List Int} {sl sl2 : List SN} {rl : List RC} {l : Lg} {n : Int}
theorem lg_same (h : sl2.map SN.pn = sl.map SN.pn) : lg co er se sl2 rl = lg co er se sl rl := by unfold lg; rw [h]
theorem big_same (h : sl2.map SN.pn = sl.map SN.pn) (hb : LgBig co er se sl rl) : LgBig co er se sl2 rl := by
  obtain ⟨h1, h2, h3, ⟨h4, h5⟩, h6⟩ := hb
  refine ⟨h1, h2, h3, ⟨?_, fun x hx => ?_⟩, h6⟩
  · have := congrArg List.length h
    rw [List.length_map, List.length_map] at this
    omega
  · have h7 : x.pn ∈ sl.map SN.pn := by rw [← h]; exact List.mem_map.2 ⟨x, hx, rfl⟩
    obtain ⟨y, hy, he⟩ := List.mem_map.1 h7
    have h8 : y.xs = x.xs := congrArg Sn.xs he
    rw [← h8]; exact h5 y hy
end



end Go.Proofs.YtekkdhpgcilpdaaGreat
