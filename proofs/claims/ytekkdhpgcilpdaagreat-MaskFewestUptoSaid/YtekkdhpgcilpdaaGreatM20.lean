/- Contracts. -/
import Derived.Test.YtekkdhpgcilpdaaGreatM19
set_option linter.unusedVariables false
set_option linter.unusedSimpArgs false
namespace Go.Proofs.YtekkdhpgcilpdaaGreat
open Go Go.RowKit Go.Gv Go.Fl
/-! ### Earlier seen, later asked, never seen -/
section
variable {l x : Lg} {b b2 : Int} {r : RC} {k : Nat}
end
/-! ### Other orders -/
theorem free_iff {p : List Int} {b : Int} (hb : -1 ≤ b) : freeP p b = true ↔ ∀ q, q < p.length → p.getD q 0 = b → b = -1 := by
  unfold freeP
  rw [Bool.or_eq_true, decide_eq_true_eq, Bool.not_eq_true', ← Bool.not_eq_true, has_iff]
  constructor
  · rintro (h | h) q hq he
    · exact h
    · exact absurd (by rw [← he]; exact getD_lt hq) h
  · intro h
    by_cases h1 : b = -1
    · exact .inl h1
    · right
      intro h2
      obtain ⟨q, hq, he⟩ := List.mem_iff_getElem.1 h2
      exact h1 (h q hq (by rw [List.getD_eq_getElem?_getD, List.getElem?_eq_getElem hq]; exact he))
theorem mem_asg {can : Nat → Int → Bool} {m n : Nat} {a : List Int} : a ∈ allF can m noB n [] ↔ a.length = n ∧ ∀ r, r < n → a.getD r 0 ∈ bys m ∧ can r (a.getD r 0) = true ∧ ∀ q, q < n → q ≠ r → a.getD q 0 = a.getD r 0 → a.getD r 0 = -1 := by
  rw [mem_all]
  have e0 : ∀ r, r < a.length → (okAt can m noB a r ↔ a.getD r 0 ∈ bys m ∧ can r (a.getD r 0) = true ∧ ∀ q, q < r → a.getD q 0 = a.getD r 0 → a.getD r 0 = -1) := fun r hr => by
    rw [okAt_noB]
    refine and_congr_right fun hb => ?_
    unfold stepB
    have hl : (a.take r).length = r := by rw [List.length_take]; omega
    rw [Bool.and_eq_true, free_iff (mem_bys.1 hb).1, hl]
    refine and_congr_right fun _ => ?_
    constructor <;> intro h q hq he
    · exact h q hq (by rw [List.getD_eq_getElem?_getD, List.getElem?_take, if_pos hq, ← List.getD_eq_getElem?_getD]; exact he)
    · exact h q hq (by rw [List.getD_eq_getElem?_getD, List.getElem?_take, if_pos hq, ← List.getD_eq_getElem?_getD] at he; exact he)
  constructor
  · rintro ⟨_, h2, h3⟩
    have h2 : a.length = n := by simpa using h2
    refine ⟨h2, fun r hr => ?_⟩
    obtain ⟨g1, g2, g3⟩ := (e0 r (by omega)).1 (h3 r (Nat.zero_le _) (by omega))
    refine ⟨g1, g2, fun q hq hne he => ?_⟩
    rcases Nat.lt_or_ge q r with h | h
    · exact g3 q h he
    · rw [← he]
      exact ((e0 q (by omega)).1 (h3 q (Nat.zero_le _) (by omega))).2.2 r (by omega) he.symm
  · rintro ⟨h2, h3⟩
    refine ⟨by simp, by simpa using h2, fun r _ hr => ?_⟩
    obtain ⟨g1, g2, g3⟩ := h3 r (by omega)
    exact (e0 r hr).2 ⟨g1, g2, fun q hq he => g3 q (by omega) (by omega) he⟩
section
variable {l : Lg} {i r : Nat} {fal : Bool}
end
/-! ### Parts -/
/-! ### Lists in lists -/
section
variable {t : List Int} {a b : List (List Int)} {k i : Nat} {L M : List SV}
theorem svx_getD (L : List SV) (j : Nat) : (L.map (·.xs)).getD j [] = (L.getD j sv0).xs := by
  rw [List.getD_eq_getElem?_getD, List.getD_eq_getElem?_getD, List.getElem?_map]
  cases L[j]? <;> rfl
theorem part_mk {xs : List Int} {k n : Nat} : (xs.take ((k : Int) + (n : Int)).toNat).drop k = subOf xs k n := by
  unfold subOf
  rw [show ((k : Int) + (n : Int)).toNat = k + n by omega]
theorem part_yes {xs ys : List Int} (h0 : 0 < xs.length) (hk : k + xs.length ≤ ys.length) (h : xs = subOf ys k xs.length) : partB xs ys = true := partB_iff.2 ⟨h0, k, hk, h⟩
theorem part_no {xs ys : List Int} (h : ∀ j, j < k → ¬ xs = subOf ys j xs.length) (hk : ys.length < k + xs.length ∨ xs.length = 0) : partB xs ys = false := by
  rw [← Bool.not_eq_true, partB_iff]
  rintro ⟨h0, lo, h1, h2⟩
  exact h lo (by omega) h2
end
section
variable {co : List Sg} {er : Int} {se : List Int} {sl : List SN} {rl : List RC} {hr : Int} {t : List Int} {k : Nat} {D : List SV}
theorem tx_mem (hD : D.map (·.xs) = textsL (lg co er se sl rl) hr) (hk : k < D.length) : (D.getD k sv0).xs ∈ textsL (lg co er se sl rl) hr := by rw [← hD]; exact List.mem_map.2 ⟨_, getD_lt hk, rfl⟩
end


theorem isPart6_ret (xa : Option Addr) (xc : Nat) (xs : List Int) (ya : Option Addr) (yc : Nat) (ys : List Int) (w : World) (hx : Row w xa xs.length xc 1 (xs.map vint)) (hxn : xs.length ≤ 2097152) (hy : Row w ya ys.length yc 1 (ys.map vint)) (hyn : ys.length ≤ 2097152) : Ret Tryz.prog 44 [.slice xa xs.length xc, .slice ya ys.length yc] w (fun v w' => v = .bool (partB xs ys) ∧ Ext w w') := by
 have hB := Below.refl w.heap.size w
 have hsz : w.heap.size ≤ w.heap.size := Nat.le_refl _
 refine ret_of_runs (args := [_, _]) Tryz.func44 rfl (Nat.le_of_ble_eq_true rfl) (by kernel_rfl) (r_seq (r_region' (l_q (qab rfl rfl) (l_nil (r_seq (r_seq (r_region' (l_q (qai rfl rfl) (l_nil (r_block (r_rounds (α := Nat) (fun k e wl => Knows e [(0, .slice xa xs.length xc), (1, .slice ya ys.length yc), (5, vint (k : Int))] ∧ (k ≤ ys.length + 1) ∧ (∀ j, j < k → ¬ xs = subOf ys j xs.length) ∧ (w.heap.size ≤ wl.heap.size) ∧ (Below w.heap.size w wl)) (fun k => ys.length + 1 - k) 0 ?_ ?_)))))))))))
 ·
  exact ⟨⟨rfl, rfl, rfl, trivial⟩, (Nat.zero_le _), (fun i hi => absurd hi (Nat.not_lt_zero _)), hsz, hB⟩
 ·
  rintro k el1 wl1 ⟨hkn, hkk, hno, hsz, hB⟩ ih1
  obtain ⟨e1, rfl⟩ := knows_env hkn
  refine r_seq (r_seq (r_region' (l_q (qmi rfl rfl) (l_q (qms rfl rfl) (l_q (q_len rfl Tryz.underlying25 rfl rfl) (l_q (q_add rfl rfl (by omega) rfl) (l_q (qms rfl rfl) (l_q (q_len rfl Tryz.underlying25 rfl rfl) (l_q (q_leq rfl rfl rfl) (l_q (qmb rfl rfl) (l_part 13 rfl (fun hc2 => ?_) (fun hc2 => ?_))))))))))))
  ·
   replace hc2 := dt hc2
   have g13 := hc2
   refine l_q (qms rfl rfl) (l_q (q_len rfl Tryz.underlying25 rfl rfl) (l_q (q_gtr rfl rfl rfl) (l_q (q_pick_t (v := .bool _) rfl rfl rfl) (l_nil (r_forget [(0, .slice _ _ _), (1, .slice _ _ _), (5, .int _ _), (17, .bool _)] ⟨rfl, rfl, rfl, rfl, trivial⟩ (fun e3 => (r_cond rfl (fun hc4 => ?_) (fun hc4 => ?_))))))))
   ·
    replace hc4 := dt hc4
    have g17 := hc4
    refine r_skip (r_seq (r_block (r_seq (r_region' (l_q (qms rfl rfl) (l_q (qms rfl rfl) (l_q (qmi rfl rfl) (l_q (qmi rfl rfl) (l_q (qms rfl rfl) (l_q (q_len rfl Tryz.underlying25 rfl rfl) (l_q (q_add rfl rfl (by omega) rfl) ?_)))))))))))
    obtain ⟨a5, c5, hr5, hv5⟩ := slice_ex (f := vint) (xs := ys) ((k : Int)) ((k : Int) + (xs.length : Int)) (hy.below hB) (by omega)
    refine l_q ((q_slice (lo := (k : Int)) (hi := (k : Int) + (xs.length : Int)) Tryz.underlying25 Tryz.sizeOf3 rfl rfl rfl (by omega) (hy.below hB).2.1 rfl).cast hv5) (l_o (o_call Tryz.call24 rfl (same_ret _ _ xs _ _ (((ys).take ((k : Int) + (xs.length : Int)).toNat).drop k) _ (hx.below hB) (by omega) hr5 (by simp only [List.length_drop, List.length_take]; omega)) rfl ?_))
    rintro _ w6 ⟨rfl, hE6⟩
    replace hB := below_ext hB hE6 hsz
    replace hsz := Nat.le_trans hsz hE6.size
    refine l_nil (r_cond rfl (fun hc7 => ?_) (fun hc7 => ?_))
    ·
     replace hc7 := dt hc7
     have g28 : xs = subOf ys k xs.length := (hc7).trans part_mk
     refine r_seq (r_region' (l_q (qab rfl rfl) (l_nil (r_forget [(4, .bool _)] ⟨rfl, trivial⟩ (fun e8 => (r_ret_ (vs := [.bool _]) rfl Tryz.func44 rfl (.nil _) ⟨rfl, trivial⟩ ?_))))))
     exact ⟨vbool_eq (part_yes (by omega) (by omega) g28).symm, Ext.of_below hB⟩
    ·
     replace hc7 := df hc7
     have g28 : ¬ xs = subOf ys k xs.length := fun h => hc7 (h.trans part_mk.symm)
     refine r_skip (r_inBlock (r_region' (l_q (qmi rfl rfl) (l_q (q_add rfl rfl (by omega) rfl) (l_q (qai rfl rfl) (l_nil (r_forget [(0, .slice _ _ _), (1, .slice _ _ _), (5, .int _ _)] ⟨rfl, rfl, rfl, trivial⟩ (fun e9 => ?_))))))))
     exact ih1 (k + 1) _ _ ⟨⟨rfl, rfl, (vint_eq (by omega)), trivial⟩, (by omega), (fun j hj => by rcases Nat.lt_succ_iff_lt_or_eq.1 hj with h | h; exact hno j h; subst h; exact g28), hsz, hB⟩ (by first | omega | (dsimp only; omega))
   ·
    replace hc4 := dlt hc4
    have g17 := hc4
    refine r_exit rfl (r_seq (r_region' (l_q (qab rfl rfl) (l_nil (r_ret_ (vs := [.bool _]) rfl Tryz.func44 rfl (.nil _) ⟨rfl, trivial⟩ ?_)))))
    exact ⟨vbool_eq (part_no hno (by omega)).symm, Ext.of_below hB⟩
  ·
   replace hc2 := dle hc2
   have g13 := hc2
   refine l_q (q_skip rfl) (l_q (q_skip rfl) (l_q (q_skip rfl) (l_q (q_pick_f (v := .bool _) rfl rfl rfl) (l_nil (r_forget [(0, .slice _ _ _), (1, .slice _ _ _), (5, .int _ _), (17, .bool _)] ⟨rfl, rfl, rfl, rfl, trivial⟩ (fun e10 => (r_cond_f rfl (r_exit rfl (r_seq (r_region' (l_q (qab rfl rfl) (l_nil (r_ret_ (vs := [.bool _]) rfl Tryz.func44 rfl (.nil _) ⟨rfl, trivial⟩ ?_)))))))))))))
   exact ⟨vbool_eq (part_no hno (by omega)).symm, Ext.of_below hB⟩
end Go.Proofs.YtekkdhpgcilpdaaGreat
