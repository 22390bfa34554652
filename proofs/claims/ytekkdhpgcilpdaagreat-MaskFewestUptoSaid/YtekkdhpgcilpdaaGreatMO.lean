/- Contracts. -/
import Derived.Test.YtekkdhpgcilpdaaGreatM12
import Derived.Test.YtekkdhpgcilpdaaGreatGvO
import Derived.Test.YtekkdhpgcilpdaaGreatBulk
import Derived.Test.YtekkdhpgcilpdaaGreatRows
set_option linter.unusedVariables false
set_option linter.unusedSimpArgs false
namespace Go.Proofs.YtekkdhpgcilpdaaGreat
open Go Go.RowKit Go.Gv Go.Fl
section
variable {H : Type} {enc : TypeId × Value → H} {w : World}
theorem trod_one {P : Program} {t : TypeId} {fuel : Nat} {cs : List Value} {x : DataW H × List MemPlace} {F0 : Field} (ht : P.underlying t = some (.struct #[F0])) (hC : P.cellsOf t = 1) (ho : F0.offset = 0) (hc : P.cellsOf F0.type = 1) (h : DataW.trod enc P w 0 (fun _ => true) true fuel t cs = some x) :
    ∃ (v0 : Value) (y0 : DataW H × List MemPlace) (n : Nat), cs = [v0] ∧ x.1 = .agg [y0.1] ∧ DataW.trod enc P w 0 (fun _ => true) true n F0.type [v0] = some y0 := by
  obtain ⟨xs, n, _, rfl, hl, hlen, hf⟩ := DataW.trod_struct ht h
  rw [hC] at hl
  match cs, hl, xs, hlen with
  | [v0], _, [y0], _ =>
    have h0 := hf 0 F0 rfl
    refine ⟨v0, y0, n, rfl, rfl, ?_⟩
    simpa [ho, hc] using h0
def SnGood (w : World) (x : SN) (d : DataW H) : Prop := Row w x.a x.xs.length x.c 1 (x.xs.map vint) ∧ ∃ d0 d1 d2, d = .agg [d0, d1, d2] ∧ ((d2 = .nil ∧ x.xs = []) ∨ ∃ ys, d2 = .slice (ChangeShapes.lits .i64 x.xs) (ChangeShapes.lits .i64 ys))
def RcGood (x : RC) (d : DataW H) : Prop := ∃ d0 d1, d = .agg [d0, d1, .lit (.string x.s)]
theorem opens_SN : Opens enc Tryz.prog w 69 SN.enc (SnGood w) := fun fuel cs x h => by
  obtain ⟨v0, v1, v2, y0, y1, y2, n, rfl, hx, h0, h1, h2⟩ := trod_three Tryz.underlying69 (by kernel_rfl) ⟨rfl, rfl, rfl⟩ ⟨by kernel_rfl, by kernel_rfl, by kernel_rfl⟩ h
  obtain ⟨a, rfl, _, _⟩ := open_num Tryz.underlying3 h0
  obtain ⟨b, rfl, _, _⟩ := open_num Tryz.underlying3 h1
  obtain ⟨xa, xc, xs, rfl, hr, _, hb⟩ := open_row_ints Tryz.underlying25 Tryz.underlying3 (by kernel_rfl) h2
  exact ⟨⟨a, b, xa, xc, xs⟩, rfl, hr, _, _, _, hx, hb⟩
theorem opens_RC : Opens enc Tryz.prog w 61 RC.enc RcGood := fun fuel cs x h => by
  obtain ⟨v0, v1, v2, y0, y1, y2, n, rfl, hx, h0, h1, h2⟩ := trod_three Tryz.underlying61 (by kernel_rfl) ⟨rfl, rfl, rfl⟩ ⟨by kernel_rfl, by kernel_rfl, by kernel_rfl⟩ h
  obtain ⟨a, rfl, _, _⟩ := open_num Tryz.underlying3 h0
  obtain ⟨b, rfl, _, _⟩ := open_num Tryz.underlying3 h1
  obtain ⟨s, rfl, hs⟩ := open_text Tryz.underlying9 h2
  exact ⟨⟨a, b, s⟩, rfl, _, _, by rw [hx, hs]⟩
theorem lg_args {ka : Option Addr} {kc : Nat} {co : List Sg} {er : Int} {sa : Option Addr} {sc : Nat} {se : List Int} {ja : Option Addr} {jc : Nat} {sl : List SN} {ra : Option Addr} {rc : Nat} {rl : List RC}
    (h1 : Row w ka co.length kc 1 (co.map vstr)) (h2 : Row w sa se.length sc 1 (se.map vint)) (h3 : Row w ja sl.length jc 3 (sl.flatMap SN.enc)) (g3 : ∀ y ∈ sl, ∃ d : DataW H, SnGood w y d ∧ Rows.uptoBulk d ≤ 1048576)
    (h4 : Row w ra rl.length rc 3 (rl.flatMap RC.enc)) (g4 : ∀ y ∈ rl, ∃ d : DataW H, RcGood y d ∧ Rows.uptoBulk d ≤ 1048576) (b1 : co.length ≤ 1048576 ∧ ∀ s ∈ co, s.length ≤ 1048576) (b2 : se.length ≤ 1048576) (b3 : sl.length ≤ 1048576) (b4 : rl.length ≤ 1048576)
    (he : -9223372036854775808 ≤ er ∧ er ≤ 9223372036854775807) : LgAt w ka kc co sa sc se ja jc sl ra rc rl ∧ LgBig co er se sl rl := by
  refine ⟨⟨h1, h2, h3, fun y hy => ?_, h4⟩, ⟨by omega, fun s hs => by have := b1.2 s hs; omega⟩, he, by omega, ⟨by omega, fun y hy => ?_⟩, by omega, fun y hy => ?_⟩
  · obtain ⟨d, ⟨hr, _⟩, _⟩ := g3 y hy
    exact hr
  · obtain ⟨d, ⟨_, d0, d1, d2, rfl, hb⟩, hd⟩ := g3 y hy
    have := bulks.ints_le hb (bulks.agg_part (by simp) hd)
    omega
  · obtain ⟨d, ⟨d0, d1, rfl⟩, hd⟩ := g4 y hy
    have h := bulks.agg_part (d := .lit (.string y.s)) (by simp) hd
    rw [bulks.string_eq] at h
    omega
end



end Go.Proofs.YtekkdhpgcilpdaaGreat
