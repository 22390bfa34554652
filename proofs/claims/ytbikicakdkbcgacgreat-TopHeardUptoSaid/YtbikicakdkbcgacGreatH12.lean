/- Contracts. -/
import Derived.Test.YtbikicakdkbcgacGreatH11
set_option linter.unusedVariables false
set_option linter.unusedSimpArgs false
namespace Go.Proofs.YtbikicakdkbcgacGreat
open Go Go.RowKit Go.Gv Go.Fl

/-! ### What a false station of a land sees and hears -/
theorem bad_ne {n fr bad : Nat} {d : Int} (hf : fr < n) (hd : 0 ≤ d ∧ d < (n : Int) - 1) (h : ((fr : Int) + 1 + d) % (n : Int) = (bad : Int)) : bad < n ∧ fr ≠ bad := by
  have h1 := Int.emod_lt_of_pos ((fr : Int) + 1 + d) (show (0 : Int) < n by omega)
  refine ⟨by omega, fun he => ?_⟩
  by_cases hlt : (fr : Int) + 1 + d < n
  · rw [Int.emod_eq_of_lt (by omega) hlt] at h; omega
  · rw [← Int.sub_emod_right, Int.emod_eq_of_lt (by omega) (by omega)] at h; omega
theorem hrs_succ {p : Nat → Bool} {n : Nat} : hrsF p (n + 1) = hrsF p n ++ (if p n = true then [(n : Int)] else []) := by
  split
  · rename_i h; exact (hrs_yes h).symm
  · rename_i h; rw [List.append_nil]; exact (hrs_no (by simpa using h)).symm
theorem hrs_first {p : Nat → Bool} {q : Nat} : ∀ {n : Nat}, q < n → p q = true → ∃ q0 : Nat, (hrsF p n).getD 0 (-1) = (q0 : Int) ∧ q0 ≤ q
  | 0, h, _ => by omega
  | n + 1, h, hp => by
    rw [hrs_succ]
    by_cases hq : q < n
    · obtain ⟨q0, h1, h2⟩ := hrs_first hq hp
      refine ⟨q0, ?_, h2⟩
      cases hl : hrsF p n with
      | nil => rw [hl] at h1; simp at h1
      | cons x l => rw [hl] at h1; exact h1
    · obtain rfl : q = n := by omega
      rw [if_pos hp]
      cases hl : hrsF p q with
      | nil => exact ⟨q, rfl, Nat.le_refl _⟩
      | cons x l =>
        obtain ⟨q0, h1, h2, _⟩ := hrs_mem.1 (show x ∈ hrsF p q by rw [hl]; simp)
        exact ⟨q0, h1, by omega⟩
theorem hrs_none {p : Nat → Bool} {n : Nat} (h : (hrsF p n).length = 0) : (hrsF p n).getD 0 (-1) = -1 := by
  rw [List.length_eq_zero_iff.1 h]; rfl
theorem hrs_some {p : Nat → Bool} {n : Nat} (h : 0 < (hrsF p n).length) : (hrsF p n).getD 0 0 = (hrsF p n).getD 0 (-1) := by
  cases hl : hrsF p n with
  | nil => rw [hl] at h; simp at h
  | cons x l => rfl
def seeF (sl : List S4) (rl : List WL) (kl : List KV) (ul : List S3) (bad ki s : Nat) : Int := if s = bad then -1 else (hrsF (fun q => canF sl rl kl ul s bad ki q) ul.length).getD 0 (-1)
def seesL (sl : List S4) (rl : List WL) (kl : List KV) (ul : List S3) (bad ki n : Nat) : List Int := (List.range n).map (seeF sl rl kl ul bad ki)
section
variable {sl : List S4} {rl : List WL} {kl : List KV} {ul : List S3} {bad ki n s : Nat}
theorem sees_snoc : seesL sl rl kl ul bad ki n ++ [seeF sl rl kl ul bad ki n] = seesL sl rl kl ul bad ki (n + 1) := by unfold seesL; rw [List.range_succ, List.map_append]; rfl
theorem sees_get (h : s < n) : (seesL sl rl kl ul bad ki n).getD s 0 = seeF sl rl kl ul bad ki s := by
  unfold seesL
  rw [List.getD_eq_getElem?_getD, List.getElem?_map, List.getElem?_range h]; rfl
theorem sees_a (h : n = bad) : seesL sl rl kl ul bad ki n ++ [-1] = seesL sl rl kl ul bad ki (n + 1) := by rw [← sees_snoc, seeF, if_pos h]
theorem sees_b (h : n ≠ bad) (hl : 0 < (hrsF (fun q => canF sl rl kl ul n bad ki q) ul.length).length) : seesL sl rl kl ul bad ki n ++ [(hrsF (fun q => canF sl rl kl ul n bad ki q) ul.length).getD 0 0] = seesL sl rl kl ul bad ki (n + 1) := by
  rw [← sees_snoc, seeF, if_neg h, hrs_some hl]
theorem sees_c (h : n ≠ bad) (hl : (hrsF (fun q => canF sl rl kl ul n bad ki q) ul.length).length = 0) : seesL sl rl kl ul bad ki n ++ [-1] = seesL sl rl kl ul bad ki (n + 1) := by
  rw [← sees_snoc, seeF, if_neg h, hrs_none hl]
theorem see_rng (hu : ul.length ≤ 12) : okSee (seeF sl rl kl ul bad ki s) = true := by
  have h : -1 ≤ seeF sl rl kl ul bad ki s ∧ seeF sl rl kl ul bad ki s ≤ 23 := by
    unfold seeF
    split
    · omega
    · cases hl : hrsF (fun q => canF sl rl kl ul s bad ki q) ul.length with
      | nil => show (-1 : Int) ≤ -1 ∧ (-1 : Int) ≤ 23; omega
      | cons x l =>
        have := hrs_rng (p := fun q => canF sl rl kl ul s bad ki q) (n := ul.length) x (by rw [hl]; simp)
        show -1 ≤ x ∧ x ≤ 23
        omega
  unfold okSee
  rw [decide_eq_true h.1, decide_eq_true h.2]; rfl
theorem sees_ok (hu : ul.length ≤ 12) : (seesL sl rl kl ul bad ki n).all okSee = true := List.all_eq_true.2 (fun x hx => by
  unfold seesL at hx
  obtain ⟨s, _, rfl⟩ := List.mem_map.1 hx
  exact see_rng hu)
end
section
variable {c : List Sg} {E : List Int} {x : SN}
theorem top_ok (hf : fault c = 0) (hE : E.all okSee = true) (hn : 1 ≤ E.length ∧ E.length ≤ 4) (hh : 0 ≤ x.h ∧ x.h ≤ 23) (hst : 0 ≤ x.st ∧ x.st ≤ (E.length : Int) - 1) (hl : 1 ≤ x.xs.length ∧ x.xs.length ≤ 5) (ht : isText c x.xs = true) : faultM (lg c 0 E [x] []) = 0 :=
  lg_0 (by simp only [List.length_cons, List.length_nil]; omega) hf ⟨by omega, by omega, hE, by
    rw [List.all_cons, List.all_nil, Bool.and_true]
    unfold okSn SN.pn hourB inSt
    dsimp only
    rw [decide_eq_true hh.1, decide_eq_true hh.2, decide_eq_true hst.1, decide_eq_true hst.2, decide_eq_true hl.1, decide_eq_true hl.2, ht]; rfl, rfl⟩
theorem top_before {b : Int} (h0 : faultM (lg c 0 E [x] []) = 0) (hb : 0 ≤ b ∧ b ≤ 23) (he : b = x.h) : heardM (lg c 0 E [x] []) b = ([], 0) := by
  unfold heardM
  rw [if_neg (by rw [h0]; decide), if_pos (by unfold hourB; rw [decide_eq_true hb.1, decide_eq_true hb.2]; rfl)]
  have h : textsL (lg c 0 E [x] []) b = [] := by
    rw [List.eq_nil_iff_forall_not_mem]
    intro t ht
    obtain ⟨s, hs, h1, _⟩ := mem_texts.1 ht
    obtain rfl : s = x.pn := by simpa [lg] using hs
    unfold heardB at h1
    rw [Bool.and_eq_true, Bool.and_eq_true, decide_eq_true_eq, decide_eq_true_eq] at h1
    have : x.pn.h = x.h := rfl
    omega
  rw [h]
theorem top_after {b : Int} (h0 : faultM (lg c 0 E [x] []) = 0) (hb : 0 ≤ b ∧ b ≤ 23) : heardM (lg c 0 E [x] []) b = (textsL (lg c 0 E [x] []) b, 0) := by
  unfold heardM
  rw [if_neg (by rw [h0]; decide), if_pos (by unfold hourB; rw [decide_eq_true hb.1, decide_eq_true hb.2]; rfl)]
theorem top_mem {b : Int} (hb : x.h < b) (h1 : E.getD x.st.toNat 0 ≠ -1) (h2 : E.getD x.st.toNat 0 ≤ x.h) {t : List Int} : t ∈ textsL (lg c 0 E [x] []) b ↔ IsSub t x.xs := by
  rw [mem_texts]
  constructor
  · rintro ⟨s, hs, _, h4⟩
    obtain rfl : s = x.pn := by simpa [lg] using hs
    exact h4
  · intro h
    refine ⟨x.pn, by simp [lg], ?_, h⟩
    unfold heardB lg SN.pn
    dsimp only
    rw [decide_eq_false h1, decide_eq_true h2, decide_eq_true hb]; rfl
theorem top_len {D : List SV} {b : Int} (hl : x.xs.length ≤ 5) (h : D.map (·.xs) = textsL (lg c 0 E [x] []) b) : D.length ≤ 25 := by
  have h1 := congrArg List.length h
  rw [List.length_map] at h1
  have h2 : (textsL (lg c 0 E [x] []) b).length ≤ (partsL (lg c 0 E [x] []) b).length := texts_len
  have h3 : (partsL (lg c 0 E [x] []) b).length ≤ 25 := by
    unfold partsL lg
    rw [List.map_cons, List.map_nil, List.flatMap_cons, List.flatMap_nil, List.append_nil]
    split
    · exact subs_len hl
    · simp
  omega
theorem sub_one {t : List Int} (h : 0 < t.length) : IsSub (t.take 1) t := ⟨by rw [List.length_take]; omega, 0, by rw [List.length_take]; omega, by
  have : (t.take 1).length = 1 := by rw [List.length_take]; omega
  rw [this]; unfold subOf; simp⟩
theorem isub_len {t u : List Int} (h : IsSub t u) : t.length ≤ u.length := by obtain ⟨_, lo, h1, _⟩ := h; omega
theorem any_in {D : List SV} {L : List (List Int)} {t : List Int} (h : D.map (·.xs) = L) (ht : t ∈ L) : D.any (fun s => decide (s.xs = t)) = true := by
  rw [← h] at ht
  obtain ⟨s, hs, he⟩ := List.mem_map.1 ht
  exact List.any_eq_true.2 ⟨s, hs, decide_eq_true he⟩
end



end Go.Proofs.YtbikicakdkbcgacGreat
