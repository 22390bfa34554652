/- Contracts. -/
import Derived.Test.YtbikicakdkbcgacGreatH1
import Derived.Test.YtbikicakdkbcgacGreatBulk
import Derived.Test.YtbikicakdkbcgacGreatGvO
set_option linter.unusedVariables false
set_option linter.unusedSimpArgs false
namespace Go.Proofs.YtbikicakdkbcgacGreat
open Go Go.RowKit Go.Gv Go.Fl

section
variable {H : Type} {enc : TypeId × Value → H} {w : World}
section
variable {P : Program} {t : TypeId} {F0 F1 F2 F3 F4 F5 : Field} {fuel : Nat} {cs : List Value} {x : DataW H × List MemPlace}
theorem trod_six (ht : P.underlying t = some (.struct #[F0, F1, F2, F3, F4, F5])) (hC : P.cellsOf t = 6) (ho : F0.offset = 0 ∧ F1.offset = 1 ∧ F2.offset = 2 ∧ F3.offset = 3 ∧ F4.offset = 4 ∧ F5.offset = 5) (hc : P.cellsOf F0.type = 1 ∧ P.cellsOf F1.type = 1 ∧ P.cellsOf F2.type = 1 ∧ P.cellsOf F3.type = 1 ∧ P.cellsOf F4.type = 1 ∧ P.cellsOf F5.type = 1) (h : DataW.trod enc P w 0 (fun _ => true) true fuel t cs = some x) :
    ∃ (v0 v1 v2 v3 v4 v5 : Value) (y0 y1 y2 y3 y4 y5 : DataW H × List MemPlace) (n : Nat), cs = [v0, v1, v2, v3, v4, v5] ∧ DataW.trod enc P w 0 (fun _ => true) true n F0.type [v0] = some y0 ∧ DataW.trod enc P w 0 (fun _ => true) true n F1.type [v1] = some y1 ∧ DataW.trod enc P w 0 (fun _ => true) true n F2.type [v2] = some y2 ∧ DataW.trod enc P w 0 (fun _ => true) true n F3.type [v3] = some y3 ∧ DataW.trod enc P w 0 (fun _ => true) true n F4.type [v4] = some y4 ∧ DataW.trod enc P w 0 (fun _ => true) true n F5.type [v5] = some y5 := by
  obtain ⟨xs, n, _, rfl, hl, hlen, hf⟩ := DataW.trod_struct ht h
  rw [hC] at hl
  match cs, hl, xs, hlen with
  | [v0, v1, v2, v3, v4, v5], _, [y0, y1, y2, y3, y4, y5], _ =>
    have h0 := hf 0 F0 rfl
    have h1 := hf 1 F1 rfl
    have h2 := hf 2 F2 rfl
    have h3 := hf 3 F3 rfl
    have h4 := hf 4 F4 rfl
    have h5 := hf 5 F5 rfl
    rw [ho.1, hc.1] at h0; rw [ho.2.1, hc.2.1] at h1; rw [ho.2.2.1, hc.2.2.1] at h2; rw [ho.2.2.2.1, hc.2.2.2.1] at h3; rw [ho.2.2.2.2.1, hc.2.2.2.2.1] at h4; rw [ho.2.2.2.2.2, hc.2.2.2.2.2] at h5
    exact ⟨v0, v1, v2, v3, v4, v5, y0, y1, y2, y3, y4, y5, n, rfl, h0, h1, h2, h3, h4, h5⟩
theorem trod_611 (ht : P.underlying t = some (.struct #[F0, F1, F2])) (hC : P.cellsOf t = 8) (ho : F0.offset = 0 ∧ F1.offset = 6 ∧ F2.offset = 7) (hc : P.cellsOf F0.type = 6 ∧ P.cellsOf F1.type = 1 ∧ P.cellsOf F2.type = 1) (h : DataW.trod enc P w 0 (fun _ => true) true fuel t cs = some x) :
    ∃ (v0 v1 v2 v3 v4 v5 v6 v7 : Value) (y0 y1 y2 : DataW H × List MemPlace) (n : Nat), cs = [v0, v1, v2, v3, v4, v5, v6, v7] ∧ DataW.trod enc P w 0 (fun _ => true) true n F0.type [v0, v1, v2, v3, v4, v5] = some y0 ∧ DataW.trod enc P w 0 (fun _ => true) true n F1.type [v6] = some y1 ∧ DataW.trod enc P w 0 (fun _ => true) true n F2.type [v7] = some y2 := by
  obtain ⟨xs, n, _, rfl, hl, hlen, hf⟩ := DataW.trod_struct ht h
  rw [hC] at hl
  match cs, hl, xs, hlen with
  | [v0, v1, v2, v3, v4, v5, v6, v7], _, [y0, y1, y2], _ =>
    have h0 := hf 0 F0 rfl
    have h1 := hf 1 F1 rfl
    have h2 := hf 2 F2 rfl
    rw [ho.1, hc.1] at h0; rw [ho.2.1, hc.2.1] at h1; rw [ho.2.2, hc.2.2] at h2
    exact ⟨v0, v1, v2, v3, v4, v5, v6, v7, y0, y1, y2, n, rfl, h0, h1, h2⟩
end
theorem opens_S4 : Opens enc Tryz.prog w 63 S4.enc (fun _ _ => True) := fun fuel cs x h => by
  obtain ⟨v0, v1, v2, v3, y0, y1, y2, y3, n, rfl, _, h0, h1, h2, h3⟩ := trod_four Tryz.underlying63 (by kernel_rfl) ⟨rfl, rfl, rfl, rfl⟩ ⟨by kernel_rfl, by kernel_rfl, by kernel_rfl, by kernel_rfl⟩ h
  obtain ⟨a, rfl, _, _⟩ := open_num Tryz.underlying3 h0
  obtain ⟨b, rfl, _, _⟩ := open_num Tryz.underlying3 h1
  obtain ⟨c, rfl, _, _⟩ := open_num Tryz.underlying3 h2
  obtain ⟨d, rfl, _, _⟩ := open_num Tryz.underlying3 h3
  exact ⟨⟨a, b, c, d⟩, rfl, trivial⟩
theorem opens_S3 : Opens enc Tryz.prog w 71 S3.enc (fun _ _ => True) := fun fuel cs x h => by
  obtain ⟨v0, v1, v2, y0, y1, y2, n, rfl, _, h0, h1, h2⟩ := trod_three Tryz.underlying71 (by kernel_rfl) ⟨rfl, rfl, rfl⟩ ⟨by kernel_rfl, by kernel_rfl, by kernel_rfl⟩ h
  obtain ⟨a, rfl, _, _⟩ := open_num Tryz.underlying3 h0
  obtain ⟨b, rfl, _, _⟩ := open_num Tryz.underlying3 h1
  obtain ⟨c, rfl, _, _⟩ := open_num Tryz.underlying3 h2
  exact ⟨⟨a, b, c⟩, rfl, trivial⟩
theorem opens_WL : Opens enc Tryz.prog w 67 WL.enc (fun _ _ => True) := fun fuel cs x h => by
  obtain ⟨v0, v1, v2, v3, v4, v5, y0, y1, y2, y3, y4, y5, n, rfl, h0, h1, h2, h3, h4, h5⟩ := trod_six Tryz.underlying67 (by kernel_rfl) ⟨rfl, rfl, rfl, rfl, rfl, rfl⟩ ⟨by kernel_rfl, by kernel_rfl, by kernel_rfl, by kernel_rfl, by kernel_rfl, by kernel_rfl⟩ h
  obtain ⟨a, rfl, _, _⟩ := open_num Tryz.underlying3 h0
  obtain ⟨b, rfl, _, _⟩ := open_num Tryz.underlying3 h1
  obtain ⟨c, rfl, _, _⟩ := open_num Tryz.underlying3 h2
  obtain ⟨d, rfl, _, _⟩ := open_num Tryz.underlying3 h3
  obtain ⟨e, rfl, _, _⟩ := open_num Tryz.underlying3 h4
  obtain ⟨f, rfl, _, _⟩ := open_num Tryz.underlying3 h5
  exact ⟨⟨a, b, c, d, e, f⟩, rfl, trivial⟩
theorem opens_CL : Opens enc Tryz.prog w 69 CL.enc (fun _ _ => True) := fun fuel cs x h => by
  obtain ⟨v0, v1, v2, v3, v4, v5, v6, v7, y0, y1, y2, n, rfl, h0, h1, h2⟩ := trod_611 Tryz.underlying69 (by kernel_rfl) ⟨rfl, rfl, rfl⟩ ⟨by kernel_rfl, by kernel_rfl, by kernel_rfl⟩ h
  obtain ⟨k, hk, _⟩ := opens_WL _ _ _ h0
  obtain ⟨a, rfl, _, _⟩ := open_num Tryz.underlying3 h1
  obtain ⟨b, rfl, _, _⟩ := open_num Tryz.underlying3 h2
  obtain ⟨x1, x2, x3, x4, x5, x6⟩ := k
  simp only [WL.enc, List.cons.injEq, and_true] at hk
  obtain ⟨rfl, rfl, rfl, rfl, rfl, rfl⟩ := hk
  exact ⟨⟨x1, x2, x3, x4, x5, x6, a, b⟩, rfl, trivial⟩
theorem opens_KV : Opens enc Tryz.prog w 61 (fun k : KV => [KV.enc k]) (fun k d => Row w k.a k.xs.length k.c 8 (k.xs.flatMap CL.enc) ∧ ∀ m, Rows.uptoBulk d ≤ m → k.xs.length ≤ m) := fun fuel cs x h => by
  have hu : ∃ u, cs = [u] := by
    rcases DataW.trod_slice Tryz.underlying61 h with ⟨hcs, _⟩ | ⟨a, len, cap, elems, rest, n, _, hcs, _⟩
    · exact ⟨_, hcs⟩
    · exact ⟨_, hcs⟩
  obtain ⟨u, rfl⟩ := hu
  obtain ⟨a, c, xs, rfl, hr, hb⟩ := open_row_wide (ce := CL.enc) Tryz.underlying61 (by kernel_rfl) CL.len (by decide) opens_CL h
  exact ⟨⟨a, c, xs⟩, rfl, hr, fun m hm => bulks.wide_le hb hm⟩
theorem flat_one {kl : List KV} : kl.flatMap (fun k : KV => [KV.enc k]) = kl.map KV.enc := by
  induction kl with
  | nil => rfl
  | cons k l ih => rw [List.flatMap_cons, ih]; rfl
theorem open_land {fuel : Nat} {cs : List Value} {x : DataW H × List MemPlace} (h : DataW.trod enc Tryz.prog w 0 (fun _ => true) true fuel 27 cs = some x) :
    ∃ (sa : Option Addr) (sc : Nat) (sl : List S4) (ra : Option Addr) (rc : Nat) (rl : List WL) (ka : Option Addr) (kc : Nat) (kl : List KV) (ua : Option Addr) (uc : Nat) (ul : List S3), cs = [.slice sa (List.length sl) sc, .slice ra (List.length rl) rc, .slice ka (List.length kl) kc, .slice ua (List.length ul) uc] ∧ LandAt w sa sc sl ra rc rl ka kc kl ua uc ul ∧
      ∀ m, Rows.uptoBulk x.1 ≤ m → m ≤ 2097152 → LaBig sl rl kl ul := by
  obtain ⟨v0, v1, v2, v3, y0, y1, y2, y3, n, rfl, hx, h0, h1, h2, h3⟩ := trod_four Tryz.underlying27 (by kernel_rfl) ⟨rfl, rfl, rfl, rfl⟩ ⟨by kernel_rfl, by kernel_rfl, by kernel_rfl, by kernel_rfl⟩ h
  obtain ⟨sa, sc, sl, rfl, hs, bs⟩ := open_row_wide (ce := S4.enc) Tryz.underlying22 (by kernel_rfl) S4.len (by decide) opens_S4 h0
  obtain ⟨ra, rc, rl, rfl, hr, br⟩ := open_row_wide (ce := WL.enc) Tryz.underlying23 (by kernel_rfl) WL.len (by decide) opens_WL h1
  obtain ⟨ka, kc, kl, rfl, hk, bk⟩ := open_row_wide (ce := fun k : KV => [KV.enc k]) Tryz.underlying24 (by kernel_rfl) (fun _ => rfl) (by decide) opens_KV h2
  obtain ⟨ua, uc, ul, rfl, hu, bu⟩ := open_row_wide (ce := S3.enc) Tryz.underlying25 (by kernel_rfl) S3.len (by decide) opens_S3 h3
  rw [flat_one] at hk
  have hrk : RowsK w kl := fun k hkm => by
    rcases bk with ⟨_, rfl⟩ | ⟨ds, ys, _, _, hall⟩
    · simp at hkm
    · obtain ⟨d, _, hd, _⟩ := hall k hkm
      exact hd
  refine ⟨sa, sc, sl, ra, rc, rl, ka, kc, kl, ua, uc, ul, rfl, ⟨hs, hr, hk, hrk, hu⟩, fun m hm hm2 => ?_⟩
  rw [hx] at hm
  have b1 := bulks.wide_le bs (bulks.agg_part (by simp) hm)
  have b2 := bulks.wide_le br (bulks.agg_part (by simp) hm)
  have b3 := bulks.wide_le bk (bulks.agg_part (by simp) hm)
  have b4 := bulks.wide_le bu (bulks.agg_part (by simp) hm)
  have b5 := bulks.wide_all bk (bulks.agg_part (by simp) hm)
  refine ⟨by omega, by omega, by omega, by omega, fun k hkm => ?_⟩
  obtain ⟨d, ⟨_, hd⟩, hb⟩ := b5 k hkm
  have := hd m hb
  omega
end



end Go.Proofs.YtbikicakdkbcgacGreat
