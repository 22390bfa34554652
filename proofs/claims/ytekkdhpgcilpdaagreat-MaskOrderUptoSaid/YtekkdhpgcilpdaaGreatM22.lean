/- Contracts. -/
import Derived.Test.YtekkdhpgcilpdaaGreatM21
set_option linter.unusedVariables false
set_option linter.unusedSimpArgs false
namespace Go.Proofs.YtekkdhpgcilpdaaGreat
open Go Go.RowKit Go.Gv Go.Fl
/-! ### Parts of wide rows; other orders -/
theorem flat_take {α : Type} {enc : α → List Value} {sz : Nat} (hs : ∀ x, (enc x).length = sz) : ∀ (l : List α) (k : Nat), (l.flatMap enc).take (k * sz) = (l.take k).flatMap enc
  | [], k => by simp
  | x :: l, 0 => by simp
  | x :: l, k + 1 => by
    rw [List.flatMap_cons, List.take_succ_cons, List.flatMap_cons, List.take_append, hs, Nat.succ_mul, Nat.add_sub_cancel, flat_take hs l k, List.take_of_length_le (by rw [hs]; omega)]
theorem flat_drop {α : Type} {enc : α → List Value} {sz : Nat} (hs : ∀ x, (enc x).length = sz) : ∀ (l : List α) (k : Nat), (l.flatMap enc).drop (k * sz) = (l.drop k).flatMap enc
  | [], k => by simp
  | x :: l, 0 => by simp
  | x :: l, k + 1 => by
    rw [List.flatMap_cons, List.drop_succ_cons, List.drop_append, hs, Nat.succ_mul, Nat.add_sub_cancel, flat_drop hs l k, List.drop_eq_nil_of_le (by rw [hs]; omega), List.nil_append]
theorem slice_exw {α : Type} {enc : α → List Value} {sz : Nat} (hs : ∀ x, (enc x).length = sz) {xs : List α} {w : World} {a : Option Addr} {c : Nat} (lo hi : Int) (h : Row w a xs.length c sz (xs.flatMap enc)) (h1 : 0 ≤ lo ∧ lo ≤ hi ∧ hi ≤ xs.length) :
    ∃ a' c', Row w a' (((xs.take hi.toNat).drop lo.toNat)).length c' sz (((xs.take hi.toNat).drop lo.toNat).flatMap enc) ∧
      Value.slice (if c = lo.toNat then a else a.map (·.add (lo.toNat * sz))) (hi.toNat - lo.toNat) (c - lo.toNat) = .slice a' (((xs.take hi.toNat).drop lo.toNat)).length c' := by
  have hr := h.slice (lo := lo.toNat) (hi := hi.toNat) (by omega) (by omega)
  rw [flat_take hs, flat_drop hs] at hr
  have hl : ((xs.take hi.toNat).drop lo.toNat).length = hi.toNat - lo.toNat := by rw [List.length_drop, List.length_take]; omega
  exact ⟨_, _, by rw [hl]; exact hr, by rw [hl]⟩
theorem slice_exw_hi {α : Type} {enc : α → List Value} {sz : Nat} (hs : ∀ x, (enc x).length = sz) {xs : List α} {w : World} {a : Option Addr} {c : Nat} (hi : Int) (h : Row w a xs.length c sz (xs.flatMap enc)) (h1 : 0 ≤ hi ∧ hi ≤ xs.length) :
    ∃ a' c', Row w a' (xs.take hi.toNat).length c' sz ((xs.take hi.toNat).flatMap enc) ∧
      Value.slice (if c = (0 : Int).toNat then a else a.map (·.add ((0 : Int).toNat * sz))) (hi.toNat - (0 : Int).toNat) (c - (0 : Int).toNat) = .slice a' (xs.take hi.toNat).length c' := by
  have := slice_exw hs 0 hi h (by omega)
  simpa only [Int.toNat_zero, List.drop_zero] using this
theorem slice_exw_lo {α : Type} {enc : α → List Value} {sz : Nat} (hs : ∀ x, (enc x).length = sz) {xs : List α} {w : World} {a : Option Addr} {c : Nat} (lo : Int) (h : Row w a xs.length c sz (xs.flatMap enc)) (h1 : 0 ≤ lo ∧ lo ≤ xs.length) :
    ∃ a' c', Row w a' (xs.drop lo.toNat).length c' sz ((xs.drop lo.toNat).flatMap enc) ∧
      Value.slice (if c = lo.toNat then a else a.map (·.add (lo.toNat * sz))) ((xs.length : Int).toNat - lo.toNat) (c - lo.toNat) = .slice a' (xs.drop lo.toNat).length c' := by
  have := slice_exw hs lo xs.length h (by omega)
  rwa [Int.toNat_natCast, List.take_of_length_le (Nat.le_refl _)] at this
section
variable {co : List Sg} {er : Int} {se : List Int} {sl : List SN} {rl : List RC} {i k c : Nat} {w : World} {l : Lg}
theorem rotS (h : RowsS w sl) : RowsS w (rotL i sl) := fun s hs => h s (rot_mem.1 hs)
theorem rotJ_big (hb : LgBig co er se sl rl) : LgBig co er se (rotL i sl) rl := ⟨hb.1, hb.2.1, hb.2.2.1, ⟨by rw [rot_len]; exact hb.2.2.2.1.1, fun x hx => hb.2.2.2.1.2 x (rot_mem.1 hx)⟩, hb.2.2.2.2⟩
theorem rotR_big (hb : LgBig co er se sl rl) : LgBig co er se sl (rotL i rl) := ⟨hb.1, hb.2.1, hb.2.2.1, hb.2.2.2.1, by rw [rot_len]; exact hb.2.2.2.2.1, fun x hx => hb.2.2.2.2.2 x (rot_mem.1 hx)⟩
theorem ord_x (h : faultM (lg co er se sl rl) = 0) (hi : i < sl.length) : verdW (lg co er se (rotL i sl) rl) = verdW (lg co er se sl rl) := by
  have h1 := rotJ_verd (l := lg co er se sl rl) (i := i) h (by rw [lgJ]; exact hi)
  have e : withJ (lg co er se sl rl) (rotL i (lg co er se sl rl).J) = lg co er se (rotL i sl) rl := by
    unfold withJ lg rotL
    rw [List.map_append, List.map_drop, List.map_take]
  rwa [e] at h1
theorem ord_y (h : faultM (lg co er se sl rl) = 0) (hk : k < rl.length) : (verdW (lg co er se sl (rotL k rl))).2 = (verdW (lg co er se sl rl)).2 ∧ (verdW (lg co er se sl (rotL k rl))).1.length = (verdW (lg co er se sl rl)).1.length ∧ ∀ r, r < (verdW (lg co er se sl rl)).1.length → (verdW (lg co er se sl (rotL k rl))).1.getD ((r + rl.length - k) % rl.length) 0 = (verdW (lg co er se sl rl)).1.getD r 0 := rotR_verd (l := lg co er se sl rl) h hk
theorem verd_len (h : faultM l = 0) (hc : c < (verdW l).1.length) : (verdW l).1.length = l.R.length := by
  by_cases hv : (verdW l).2 = 0
  · rw [(vd_ok h hv).1, List.length_map, List.length_range]
  · rw [(vd_err h hv).1] at hc; exact absurd hc (Nat.not_lt_zero _)
theorem mod_nat {c n k : Nat} (hk : k ≤ n) : ((c : Int) + (n : Int) - (k : Int)) % (n : Int) = (((c + n - k) % n : Nat) : Int) := by
  rw [Int.natCast_emod]
  congr 1
  omega
end



end Go.Proofs.YtekkdhpgcilpdaaGreat
