/- Contracts. -/
import Derived.Test.YtbikicakdkbcgacGreatSrt
import Derived.Test.YtbikicakdkbcgacGreatF12
import Derived.Test.YtbikicakdkbcgacGreatE1
set_option linter.unusedVariables false
set_option linter.unusedSimpArgs false
namespace Go.Proofs.YtbikicakdkbcgacGreat
open Go Go.RowKit Go.Gv Go.Fl

theorem isText_iff {c : List Sg} {t : List Int} : isText c t = true ↔ ∀ x ∈ t, 0 ≤ x ∧ x < (c.length : Int) := by
  unfold isText
  rw [List.all_eq_true]
  constructor
  · intro h x hx
    have := h x hx
    rw [Bool.and_eq_true, decide_eq_true_eq, decide_eq_true_eq] at this
    omega
  · intro h x hx
    have := h x hx
    rw [Bool.and_eq_true, decide_eq_true_eq, decide_eq_true_eq]
    omega
theorem fe_refl (s : Sg) : fe 1048576 s s ≤ 0 := fe_le (ex_refl s)
/- ---- assignments: lists of dispatches, each at most once, and of -1; -2 for what is left out ---- -/
section
variable {can : Nat → Int → Bool} {m : Nat} {out : Nat → Bool}
end

/- ---- the smallest set that can be left out ---- -/
section
variable {Q : List Int → Bool} {n : Nat}
end
/- ---- parts of texts, in order, each once ---- -/
def Strict (l : List (List Int)) : Prop := l.Pairwise (fun x y => ltL x y = true)
def subOf (xs : List Int) (lo n : Nat) : List Int := (xs.take (lo + n)).drop lo
theorem subOf_len {xs : List Int} {lo n : Nat} (h : lo + n ≤ xs.length) : (subOf xs lo n).length = n := by unfold subOf; rw [List.length_drop, List.length_take]; omega
def subs (xs : List Int) : List (List Int) := (List.range xs.length).flatMap (fun lo => (List.range (xs.length - lo)).map (fun d => subOf xs lo (d + 1)))
def IsSub (t xs : List Int) : Prop := 0 < t.length ∧ ∃ lo, lo + t.length ≤ xs.length ∧ t = subOf xs lo t.length
theorem mem_subs {t xs : List Int} : t ∈ subs xs ↔ IsSub t xs := by
  unfold subs IsSub
  rw [List.mem_flatMap]
  constructor
  · rintro ⟨lo, h1, h2⟩
    obtain ⟨d, h3, rfl⟩ := List.mem_map.1 h2
    have h1 := List.mem_range.1 h1
    have h3 := List.mem_range.1 h3
    have h4 := subOf_len (xs := xs) (lo := lo) (n := d + 1) (by omega)
    exact ⟨by omega, lo, by omega, by rw [h4]⟩
  · rintro ⟨h0, lo, h1, h2⟩
    exact ⟨lo, List.mem_range.2 (by omega), List.mem_map.2 ⟨t.length - 1, List.mem_range.2 (by omega), by rw [show t.length - 1 + 1 = t.length by omega]; exact h2.symm⟩⟩
theorem sub_refl {t : List Int} (h : 0 < t.length) : IsSub t t := ⟨h, 0, by omega, by unfold subOf; rw [Nat.zero_add, List.take_length]; rfl⟩
/-- each once, out of a sorted list -/
def dedS (a : List (List Int)) (x : List Int) : List (List Int) := if a.getLast? = some x then a else a ++ [x]
def dedL (l : List (List Int)) : List (List Int) := l.foldl dedS []
theorem ded_snoc {l : List (List Int)} {x : List Int} : dedL (l ++ [x]) = dedS (dedL l) x := by unfold dedL; rw [List.foldl_append]; rfl
theorem dedS_last {a : List (List Int)} {x : List Int} : (dedS a x).getLast? = some x := by
  unfold dedS
  split
  · assumption
  · simp
theorem ded_acc : ∀ {l a : List (List Int)}, Strict a → l.Pairwise (fun x y => ltL y x = false) → (∀ x ∈ a, ∀ y ∈ l, ltL y x = false) → Strict (l.foldl dedS a) ∧ ∀ t, t ∈ l.foldl dedS a ↔ t ∈ a ∨ t ∈ l
  | [], a, ha, _, _ => ⟨ha, fun t => by simp⟩
  | x :: l, a, ha, hl, hx => by
    rw [List.pairwise_cons] at hl
    rw [List.foldl_cons]
    by_cases hq : a.getLast? = some x
    · have e : dedS a x = a := by unfold dedS; rw [if_pos hq]
      rw [e]
      obtain ⟨h1, h2⟩ := ded_acc ha hl.2 (fun y hy z hz => hx y hy z (by simp [hz]))
      refine ⟨h1, fun t => ?_⟩
      rw [h2, List.mem_cons]
      constructor
      · rintro (h | h)
        · exact .inl h
        · exact .inr (.inr h)
      · rintro (h | rfl | h)
        · exact .inl h
        · exact .inl (List.mem_of_getLast? hq)
        · exact .inr h
    · have e : dedS a x = a ++ [x] := by unfold dedS; rw [if_neg hq]
      rw [e]
      have hs : Strict (a ++ [x]) := by
        unfold Strict
        rw [List.pairwise_append]
        refine ⟨ha, List.pairwise_singleton _ _, fun y hy z hz => ?_⟩
        obtain rfl : z = x := by simpa using hz
        rcases ltL_total y z with h | rfl | h
        · exact h
        · exfalso
          obtain ⟨b, c, rfl⟩ : ∃ b c, a = b ++ [c] := ⟨_, _, (List.dropLast_concat_getLast (List.ne_nil_of_mem hy)).symm⟩
          rw [List.getLast?_append, List.getLast?_singleton] at hq
          have hcy : c ≠ y := fun h => hq (by rw [h]; rfl)
          rcases List.mem_append.1 hy with h | h
          · have h1 := (List.pairwise_append.1 ha).2.2 y h c (by simp)
            have h2 := hx c (by simp) y (by simp)
            rw [h1] at h2; cases h2
          · exact hcy (List.mem_singleton.1 h).symm
        · rw [hx y hy z (by simp)] at h; cases h
      obtain ⟨h1, h2⟩ := ded_acc hs hl.2 (fun y hy z hz => by
        rcases List.mem_append.1 hy with h | h
        · exact hx y h z (by simp [hz])
        · obtain rfl : y = x := by simpa using h
          exact hl.1 z hz)
      refine ⟨h1, fun t => ?_⟩
      rw [h2, List.mem_append, List.mem_singleton, List.mem_cons]
      constructor
      · rintro ((h | h) | h)
        · exact .inl h
        · exact .inr (.inl h)
        · exact .inr (.inr h)
      · rintro (h | h | h)
        · exact .inl (.inl h)
        · exact .inl (.inr h)
        · exact .inr h
theorem ded_sort {l : List (List Int)} : Strict (dedL (sortL l)) ∧ ∀ t, t ∈ dedL (sortL l) ↔ t ∈ l := by
  obtain ⟨h1, h2⟩ := ded_acc (l := sortL l) (a := []) List.Pairwise.nil (sortL_sorted l) (fun x hx => by simp at hx)
  refine ⟨h1, fun t => ?_⟩
  show t ∈ (sortL l).foldl dedS [] ↔ _
  rw [h2, (sortL_perm l).mem_iff]
  simp
/- ---- logs ---- -/
structure Sn where
  h : Int
  st : Int
  xs : List Int
structure RC where
  h : Int
  st : Int
  s : Sg
def rcd0 : RC := ⟨0, 0, []⟩
structure Lg where
  co : List Sg
  er : Int
  se : List Int
  J : List Sn
  R : List RC
def hourB (n : Int) : Bool := decide (0 ≤ n) && decide (n ≤ 23)
def inSt (ns : Nat) (n : Int) : Bool := decide (0 ≤ n) && decide (n ≤ (ns : Int) - 1)
def okSee (n : Int) : Bool := decide (-1 ≤ n) && decide (n ≤ 23)
def okSn (co : List Sg) (ns : Nat) (x : Sn) : Bool := (hourB x.h && inSt ns x.st) && ((decide (1 ≤ x.xs.length) && decide (x.xs.length ≤ 5)) && isText co x.xs)
def okRC (ns : Nat) (r : RC) : Bool := (hourB r.h && inSt ns r.st) && decide (signsFault r.s [] = 0)
def faultM (l : Lg) : Int := if 4 < l.se.length ∨ 8 < l.J.length ∨ 6 < l.R.length then 3 else if ¬ fault l.co = 0 then fault l.co else
  if ((((decide (0 ≤ l.er) && decide (l.er ≤ 3)) && decide (0 < l.se.length)) && l.se.all okSee) && (l.J.all (okSn l.co l.se.length) && l.R.all (okRC l.se.length))) = true then 0 else 1
theorem lg_ok {l : Lg} (h : faultM l = 0) : (1 ≤ l.se.length ∧ l.se.length ≤ 4) ∧ l.J.length ≤ 8 ∧ l.R.length ≤ 6 ∧ fault l.co = 0 ∧ (0 ≤ l.er ∧ l.er ≤ 3) ∧ (∀ n ∈ l.se, -1 ≤ n ∧ n ≤ 23) ∧
    (∀ x ∈ l.J, (0 ≤ x.h ∧ x.h ≤ 23) ∧ (0 ≤ x.st ∧ x.st ≤ (l.se.length : Int) - 1) ∧ (1 ≤ x.xs.length ∧ x.xs.length ≤ 5) ∧ isText l.co x.xs = true) ∧
    (∀ r ∈ l.R, (0 ≤ r.h ∧ r.h ≤ 23) ∧ (0 ≤ r.st ∧ r.st ≤ (l.se.length : Int) - 1) ∧ signsFault r.s [] = 0) := by
  unfold faultM at h
  split at h
  · cases h
  · rename_i h1
    split at h
    · rename_i h2; exact absurd h h2
    · rename_i h2
      split at h
      · rename_i h3
        simp only [Bool.and_eq_true, decide_eq_true_eq, List.all_eq_true, okSee, okSn, okRC, hourB, inSt] at h3
        obtain ⟨⟨⟨h4, h5⟩, h6⟩, h7, h8⟩ := h3
        refine ⟨⟨by omega, by omega⟩, by omega, by omega, by simpa using h2, h4, h6, fun x hx => ?_, fun r hr => ?_⟩
        · have := h7 x hx; exact ⟨this.1.1, this.1.2, this.2.1, this.2.2⟩
        · have := h8 r hr; exact ⟨this.1.1, this.1.2, this.2⟩
      · cases h
def heardB (se : List Int) (s : Sn) (b : Int) : Bool := !decide (se.getD s.st.toNat 0 = -1) && (decide (se.getD s.st.toNat 0 ≤ s.h) && decide (s.h < b))
def partsL (l : Lg) (b : Int) : List (List Int) := l.J.flatMap (fun s => if heardB l.se s b = true then subs s.xs else [])
def textsL (l : Lg) (b : Int) : List (List Int) := dedL (sortL (partsL l b))
theorem mem_parts {l : Lg} {b : Int} {t : List Int} : t ∈ partsL l b ↔ ∃ s ∈ l.J, heardB l.se s b = true ∧ IsSub t s.xs := by
  unfold partsL
  rw [List.mem_flatMap]
  constructor
  · rintro ⟨s, hs, h⟩
    split at h
    · rename_i h1; exact ⟨s, hs, h1, mem_subs.1 h⟩
    · cases h
  · rintro ⟨s, hs, h1, h2⟩
    exact ⟨s, hs, by rw [if_pos h1]; exact mem_subs.2 h2⟩
theorem mem_texts {l : Lg} {b : Int} {t : List Int} : t ∈ textsL l b ↔ ∃ s ∈ l.J, heardB l.se s b = true ∧ IsSub t s.xs := by
  unfold textsL
  rw [ded_sort.2, mem_parts]
/- the reference's -/
end Go.Proofs.YtbikicakdkbcgacGreat
