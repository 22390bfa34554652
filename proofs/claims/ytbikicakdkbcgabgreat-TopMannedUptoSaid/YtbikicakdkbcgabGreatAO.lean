/- Contracts. -/
import Derived.Test.YtbikicakdkbcgabGreatRO
import Derived.Test.YtbikicakdkbcgabGreatA1
set_option linter.unusedVariables false
set_option linter.unusedSimpArgs false
namespace Go.Proofs.YtbikicakdkbcgabGreat
open Go Go.RowKit Go.Gv Go.Fl

section
variable {H : Type} {enc : TypeId × Value → H} {w : World}
section
variable {P : Program} {t : TypeId} {F0 F1 F2 F3 : Field} {fuel : Nat} {cs : List Value} {x : DataW H × List MemPlace}
theorem trod_1112 (ht : P.underlying t = some (.struct #[F0, F1, F2, F3])) (hC : P.cellsOf t = 5) (ho : F0.offset = 0 ∧ F1.offset = 1 ∧ F2.offset = 2 ∧ F3.offset = 3) (hc : P.cellsOf F0.type = 1 ∧ P.cellsOf F1.type = 1 ∧ P.cellsOf F2.type = 1 ∧ P.cellsOf F3.type = 2) (h : DataW.trod enc P w 0 (fun _ => true) true fuel t cs = some x) :
    ∃ (v0 v1 v2 v3 v4 : Value) (y0 y1 y2 y3 : DataW H × List MemPlace) (n : Nat), cs = [v0, v1, v2, v3, v4] ∧ x.1 = .agg [y0.1, y1.1, y2.1, y3.1] ∧ DataW.trod enc P w 0 (fun _ => true) true n F0.type [v0] = some y0 ∧ DataW.trod enc P w 0 (fun _ => true) true n F1.type [v1] = some y1 ∧ DataW.trod enc P w 0 (fun _ => true) true n F2.type [v2] = some y2 ∧ DataW.trod enc P w 0 (fun _ => true) true n F3.type [v3, v4] = some y3 := by
  obtain ⟨xs, n, _, rfl, hl, hlen, hf⟩ := DataW.trod_struct ht h
  rw [hC] at hl
  match cs, hl, xs, hlen with
  | [v0, v1, v2, v3, v4], _, [y0, y1, y2, y3], _ =>
    have h0 := hf 0 F0 rfl
    have h1 := hf 1 F1 rfl
    have h2 := hf 2 F2 rfl
    have h3 := hf 3 F3 rfl
    rw [ho.1, hc.1] at h0; rw [ho.2.1, hc.2.1] at h1; rw [ho.2.2.1, hc.2.2.1] at h2; rw [ho.2.2.2, hc.2.2.2] at h3
    exact ⟨v0, v1, v2, v3, v4, y0, y1, y2, y3, n, rfl, rfl, h0, h1, h2, h3⟩
theorem trod_1121 (ht : P.underlying t = some (.struct #[F0, F1, F2, F3])) (hC : P.cellsOf t = 5) (ho : F0.offset = 0 ∧ F1.offset = 1 ∧ F2.offset = 2 ∧ F3.offset = 4) (hc : P.cellsOf F0.type = 1 ∧ P.cellsOf F1.type = 1 ∧ P.cellsOf F2.type = 2 ∧ P.cellsOf F3.type = 1) (h : DataW.trod enc P w 0 (fun _ => true) true fuel t cs = some x) :
    ∃ (v0 v1 v2 v3 v4 : Value) (y0 y1 y2 y3 : DataW H × List MemPlace) (n : Nat), cs = [v0, v1, v2, v3, v4] ∧ x.1 = .agg [y0.1, y1.1, y2.1, y3.1] ∧ DataW.trod enc P w 0 (fun _ => true) true n F0.type [v0] = some y0 ∧ DataW.trod enc P w 0 (fun _ => true) true n F1.type [v1] = some y1 ∧ DataW.trod enc P w 0 (fun _ => true) true n F2.type [v2, v3] = some y2 ∧ DataW.trod enc P w 0 (fun _ => true) true n F3.type [v4] = some y3 := by
  obtain ⟨xs, n, _, rfl, hl, hlen, hf⟩ := DataW.trod_struct ht h
  rw [hC] at hl
  match cs, hl, xs, hlen with
  | [v0, v1, v2, v3, v4], _, [y0, y1, y2, y3], _ =>
    have h0 := hf 0 F0 rfl
    have h1 := hf 1 F1 rfl
    have h2 := hf 2 F2 rfl
    have h3 := hf 3 F3 rfl
    rw [ho.1, hc.1] at h0; rw [ho.2.1, hc.2.1] at h1; rw [ho.2.2.1, hc.2.2.1] at h2; rw [ho.2.2.2, hc.2.2.2] at h3
    exact ⟨v0, v1, v2, v3, v4, y0, y1, y2, y3, n, rfl, rfl, h0, h1, h2, h3⟩
end
theorem open_R8 {fuel : Nat} {u v : Value} {x : DataW H × List MemPlace} (h : DataW.trod enc Tryz.prog w 0 (fun _ => true) true fuel 23 [u, v] = some x) : ∃ a b : Int, u = vint a ∧ v = vint b := by
  obtain ⟨v0, v1, y0, y1, n, e, _, h0, h1⟩ := trod_two Tryz.underlying23 (by kernel_rfl) ⟨rfl, rfl⟩ ⟨by kernel_rfl, by kernel_rfl⟩ h
  obtain ⟨a, rfl, _, _⟩ := open_num Tryz.underlying3 h0
  obtain ⟨b, rfl, _, _⟩ := open_num Tryz.underlying3 h1
  injection e with e1 e2
  injection e2 with e2 _
  exact ⟨a, b, e1, e2⟩
theorem opens_NT : Opens enc Tryz.prog w 49 NT.enc (fun _ _ => True) := fun fuel cs x h => by
  obtain ⟨v0, v1, v2, v3, v4, y0, y1, y2, y3, n, rfl, hx, h0, h1, h2, h3⟩ := trod_1112 Tryz.underlying49 (by kernel_rfl) ⟨rfl, rfl, rfl, rfl⟩ ⟨by kernel_rfl, by kernel_rfl, by kernel_rfl, by kernel_rfl⟩ h
  obtain ⟨a, rfl, _, _⟩ := open_num Tryz.underlying3 h0
  obtain ⟨b, rfl, _, _⟩ := open_num Tryz.underlying3 h1
  obtain ⟨c, rfl, _, _⟩ := open_num Tryz.underlying3 h2
  obtain ⟨d, e, rfl, rfl⟩ := open_R8 h3
  exact ⟨⟨a, b, c, d, e⟩, rfl, trivial⟩
theorem open_store8 {fuel : Nat} {cs : List Value} {x : DataW H × List MemPlace} (h : DataW.trod enc Tryz.prog w 0 (fun _ => true) true fuel 26 cs = some x) :
    ∃ cap can s0 s1 a c, ∃ ns : List NT, cs = [vint cap, vint can, vint s0, vint s1, .slice a ns.length c] ∧ Row w a ns.length c 5 (ns.flatMap NT.enc) ∧ ∀ m, Rows.uptoBulk x.1 ≤ m → ns.length ≤ m := by
  obtain ⟨v0, v1, v2, v3, v4, y0, y1, y2, y3, n, rfl, hx, h0, h1, h2, h3⟩ := trod_1121 Tryz.underlying26 (by kernel_rfl) ⟨rfl, rfl, rfl, rfl⟩ ⟨by kernel_rfl, by kernel_rfl, by kernel_rfl, by kernel_rfl⟩ h
  obtain ⟨cap, rfl, _, _⟩ := open_num Tryz.underlying3 h0
  obtain ⟨can, rfl, _, _⟩ := open_num Tryz.underlying3 h1
  obtain ⟨s0, s1, rfl, rfl⟩ := open_R8 h2
  obtain ⟨a, c, ns, rfl, hr, hb⟩ := open_row_wide (ce := NT.enc) Tryz.underlying24 (by kernel_rfl) NT.len (by decide) opens_NT h3
  refine ⟨cap, can, s0, s1, a, c, ns, rfl, hr, fun m hm => ?_⟩
  rw [hx] at hm
  exact bulks.wide_le hb (bulks.agg_part (by simp) hm)
end



end Go.Proofs.YtbikicakdkbcgabGreat
