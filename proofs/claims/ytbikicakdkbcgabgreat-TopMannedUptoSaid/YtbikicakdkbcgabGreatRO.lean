/- Contracts. -/
import Derived.Test.YtbikicakdkbcgabGreatR20
import Derived.Test.YtbikicakdkbcgabGreatGvO
import Derived.Test.YtbikicakdkbcgabGreatBulk
import Derived.Test.YtbikicakdkbcgabGreatRows
set_option linter.unusedVariables false
set_option linter.unusedSimpArgs false
namespace Go.Proofs.YtbikicakdkbcgabGreat
open Go Go.RowKit Go.Gv Go.Fl

section
variable {H : Type} {enc : TypeId × Value → H} {w : World}
theorem opens_PV : Opens enc Tryz.prog w 72 PV.enc (fun x d => Row w x.a x.ab.length x.c 1 (x.ab.map Value.bool) ∧ ∃ db dr dm, d = .agg [db, dr, dm] ∧ ((db = .nil ∧ x.ab = []) ∨ ∃ ds ys, db = .slice ds ys ∧ ds.length = x.ab.length)) := fun fuel cs x h => by
  obtain ⟨v0, v1, v2, y0, y1, y2, n, rfl, hx, h0, h1, h2⟩ := trod_three Tryz.underlying72 (by kernel_rfl) ⟨rfl, rfl, rfl⟩ ⟨by kernel_rfl, by kernel_rfl, by kernel_rfl⟩ h
  obtain ⟨a, c, xs, rfl, hr, hb⟩ := open_row_bools Tryz.underlying54 Tryz.underlying4 (by kernel_rfl) h0
  obtain ⟨r, rfl, _, _⟩ := open_num Tryz.underlying3 h1
  obtain ⟨m, rfl, _, _⟩ := open_num Tryz.underlying3 h2
  exact ⟨⟨a, c, xs, r, m⟩, rfl, hr, _, _, _, hx, hb⟩
theorem po_args {na : Option Addr} {nc : Nat} {nd : List Int} {pa : Option Addr} {pc : Nat} {pl : List PV} {ca : Option Addr} {cc : Nat} {L : List SV} (h1 : Row w na nd.length nc 1 (nd.map vint)) (h2 : Row w pa pl.length pc 3 (pl.flatMap PV.enc))
    (h3 : ∀ y ∈ pl, ∃ d : DataW H, (Row w y.a y.ab.length y.c 1 (y.ab.map Value.bool) ∧ ∃ db dr dm, d = .agg [db, dr, dm] ∧ ((db = .nil ∧ y.ab = []) ∨ ∃ ds ys, db = .slice ds ys ∧ ds.length = y.ab.length)) ∧ Rows.uptoBulk d ≤ 1048576)
    (h4 : Row w ca L.length cc 1 (L.map SV.enc)) (h5 : RowsI w L) (b1 : nd.length ≤ 1048576) (b2 : pl.length ≤ 1048576) (b3 : L.length ≤ 1048576 ∧ ∀ s ∈ L, s.xs.length ≤ 1048576) : PoAt w na nc nd pa pc pl ca cc L ∧ PoBig nd pl L := by
  refine ⟨⟨h1, h2, fun y hy => ?_, h4, h5⟩, by omega, by omega, by omega, fun s hs => by have := b3.2 s hs; omega, fun y hy => ?_⟩
  · obtain ⟨d, ⟨hr, _⟩, _⟩ := h3 y hy
    exact hr
  · obtain ⟨d, ⟨_, db, dr, dm, rfl, hb⟩, hd⟩ := h3 y hy
    have := bulks.bools_le hb (bulks.agg_part (by simp) hd)
    omega
end



end Go.Proofs.YtbikicakdkbcgabGreat
