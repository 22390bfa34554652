/- Contracts. -/
import Derived.Test.YtfbjllabgkabkaaE2
set_option linter.unusedVariables false
set_option linter.unusedSimpArgs false
namespace Go.Proofs.Ytfbjllabgkabkaa
open Go Go.RowKit Go.Gv Go.Fl

/-- all lists of so many letters, in order -/
def words (n : Nat) : Nat → List (List Int)
  | 0 => [[]]
  | d + 1 => (List.range n).flatMap (fun (i : Nat) => (words n d).map ((i : Int) :: ·))
def textsOf (c : List Sg) (rd : Sg) (er : Int) (m : Nat) : List (List Int) := (words c.length m).filter (fun u => decide (fe 1048576 (signs c u) rd ≤ er))
def texts (c : List Sg) (rd : Sg) (er : Int) (n : Nat) : List (List Int) := (List.range (n + 1)).flatMap (textsOf c rd er)
theorem mem_words {n : Nat} : ∀ {d : Nat} {u : List Int}, u ∈ words n d ↔ u.length = d ∧ ∀ x ∈ u, 0 ≤ x ∧ x < (n : Int)
  | 0, u => by
    unfold words
    rw [List.mem_singleton]
    constructor
    · rintro rfl; simp
    · intro h; exact List.eq_nil_of_length_eq_zero h.1
  | d + 1, u => by
    unfold words
    rw [List.mem_flatMap]
    constructor
    · rintro ⟨i, hi, hu⟩
      obtain ⟨v, hv, rfl⟩ := List.mem_map.1 hu
      obtain ⟨h1, h2⟩ := mem_words.1 hv
      have hi := List.mem_range.1 hi
      refine ⟨by rw [List.length_cons, h1], fun x hx => ?_⟩
      rcases List.mem_cons.1 hx with rfl | hx
      · omega
      · exact h2 x hx
    · rintro ⟨h1, h2⟩
      cases u with
      | nil => simp at h1
      | cons x v =>
        have hx := h2 x (by simp)
        refine ⟨x.toNat, List.mem_range.2 (by omega), List.mem_map.2 ⟨v, mem_words.2 ⟨by simpa using h1, fun y hy => h2 y (by simp [hy])⟩, ?_⟩⟩
        rw [show ((x.toNat : Nat) : Int) = x by omega]
theorem nodup_words (n : Nat) : ∀ d, (words n d).Nodup
  | 0 => by unfold words; simp
  | d + 1 => by
    unfold words
    have ih := nodup_words n d
    rw [List.Nodup, List.pairwise_flatMap]
    refine ⟨fun i _ => ?_, ?_⟩
    · rw [List.pairwise_map]
      exact ih.imp (fun h he => h (by injection he))
    · refine List.nodup_range.imp fun {i j} hij x hx y hy he => ?_
      obtain ⟨a, _, rfl⟩ := List.mem_map.1 hx
      obtain ⟨b, _, rfl⟩ := List.mem_map.1 hy
      injection he with h1 _
      exact hij (by omega)
theorem isText_iff {c : List Sg} {t : List Int} : isText c t = true ↔ ∀ x ∈ t, 0 ≤ x ∧ x < (c.length : Int) := by
  unfold isText
  rw [List.all_eq_true]
  constructor
  · intro h x hx
    have := h x hx
    rw [Bool.and_eq_true, decide_eq_true_eq, decide_eq_true_eq] at this
    omega
  · intro h x hx
    have := h x hx
    rw [Bool.and_eq_true, decide_eq_true_eq, decide_eq_true_eq]
    omega
theorem mem_texts {c : List Sg} {rd : Sg} {er : Int} {n : Nat} {t : List Int} : t ∈ texts c rd er n ↔ t.length ≤ n ∧ isText c t = true ∧ fe 1048576 (signs c t) rd ≤ er := by
  unfold texts textsOf
  rw [List.mem_flatMap]
  constructor
  · rintro ⟨m, hm, ht⟩
    obtain ⟨h1, h2⟩ := List.mem_filter.1 ht
    obtain ⟨h3, h4⟩ := mem_words.1 h1
    have hm := List.mem_range.1 hm
    exact ⟨by omega, isText_iff.2 h4, of_decide_eq_true h2⟩
  · rintro ⟨h1, h2, h3⟩
    exact ⟨t.length, List.mem_range.2 (by omega), List.mem_filter.2 ⟨mem_words.2 ⟨rfl, isText_iff.1 h2⟩, decide_eq_true h3⟩⟩
theorem hop_true {rd : Sg} {er : Int} {R : List Int} (h : hopeless rd er R = true) (hR : R.length = 41) (hl : rd.length ≤ 40) : ∀ k, k ≤ rd.length → er < R.getD k 0 := by
  intro k hk
  unfold hopeless at h
  split at h
  · cases h
  · rw [Bool.not_eq_true', List.any_eq_false] at h
    have := h (R.getD k 0) (by
      rw [List.mem_take_iff_getElem]
      exact ⟨k, by omega, by rw [List.getD_eq_getElem?_getD, List.getElem?_eq_getElem (by omega)]; rfl⟩)
    simp only [decide_eq_true_eq] at this
    omega
theorem hop_false {rd : Sg} {er : Int} {R : List Int} (h : hopeless rd er R = false) : True := trivial
theorem signs_append (c : List Sg) {t : List Int} (ht : t ≠ []) : ∀ u : List Int, signs c (t ++ u) = signs c t ++ (if u = [] then [] else [32] ++ signs c u) := by
  have key : ∀ v : List Int, signs c (t ++ v.reverse) = signs c t ++ (if v.reverse = [] then [] else [32] ++ signs c v.reverse) := by
    intro v
    induction v with
    | nil => simp
    | cons n v ih =>
      rw [List.reverse_cons, ← List.append_assoc, signs_snoc (by simp [ht]), ih, if_neg (show ¬ v.reverse ++ [n] = [] by simp)]
      by_cases hu : v.reverse = []
      · rw [hu, List.nil_append, signs_one]; simp
      · rw [if_neg hu, signs_snoc hu]; simp
  intro u
  have := key u.reverse
  rwa [List.reverse_reverse] at this
theorem signs_pre (c : List Sg) (t : List Int) (n : Nat) : signs c (t ++ [(n : Int)]) = signs c t ++ pre32 t (c.getD n []) := by
  unfold pre32
  by_cases ht : t = []
  · subst ht; rw [List.nil_append, signs_one, signs_nil]; simp
  · rw [if_pos (List.length_pos_iff.2 ht), signs_snoc ht]; simp
theorem flat_filter_map {t : List Int} {W : List (List Int)} {p : List Int → Bool} : ∀ (l : List Nat),
    ((l.flatMap (fun (i : Nat) => W.map ((i : Int) :: ·))).filter p).map (t ++ ·) = l.flatMap (fun (i : Nat) => (W.filter (fun u => p ((i : Int) :: u))).map ((t ++ [(i : Int)]) ++ ·))
  | [] => rfl
  | i :: l => by
    rw [List.flatMap_cons, List.flatMap_cons, List.filter_append, List.map_append, flat_filter_map l]
    congr 1
    rw [List.filter_map, List.map_map]
    refine List.map_congr_left fun u _ => ?_
    simp
theorem addL_spec {c : List Sg} {rd : Sg} {er : Int} (hl : rd.length ≤ 40) (her : 0 ≤ er ∧ er < 1048576) : ∀ (d : Nat) (t R : List Int), R.length = 41 → RowOf rd (signs c t) R →
    addL c rd er d t R = ((words c.length d).filter (fun u => decide (fe 1048576 (signs c (t ++ u)) rd ≤ er))).map (t ++ ·)
  | 0, t, R, hRl, hR => by
    have hlast := hR rd.length (Nat.le_refl _)
    rw [List.take_length] at hlast
    unfold addL words
    by_cases hh : hopeless rd er R = true
    · have := hop_true hh hRl hl rd.length (Nat.le_refl _)
      rw [if_pos hh]
      rw [hlast] at this
      rw [List.filter_cons_of_neg (by rw [List.append_nil]; simp; omega)]
      rfl
    · rw [if_neg hh]
      by_cases hle : R.getD rd.length 0 ≤ er
      · rw [if_pos hle, List.filter_cons_of_pos (by rw [List.append_nil]; rw [hlast] at hle; simpa using hle)]
        simp
      · rw [if_neg hle, List.filter_cons_of_neg (by rw [List.append_nil]; rw [hlast] at hle; simpa using hle)]
        rfl
  | d + 1, t, R, hRl, hR => by
    unfold addL
    by_cases hh : hopeless rd er R = true
    · rw [if_pos hh]
      have hall := hop_true hh hRl hl
      have ht : t ≠ [] := by
        intro h; subst h
        have h0 := hall 0 (Nat.zero_le _)
        have h1 := hR 0 (Nat.zero_le _)
        rw [signs_nil, List.take_zero, fe_nil] at h1
        omega
      have hnone : (words c.length (d + 1)).filter (fun u => decide (fe 1048576 (signs c (t ++ u)) rd ≤ er)) = [] := by
        rw [List.filter_eq_nil_iff]
        intro u _
        have := cut_fe (s := signs c t) (rd := rd) (u := if u = [] then [] else [32] ++ signs c u) (er := er) (by split <;> simp) her.2 (fun k hk => by rw [← hR k hk]; exact hall k hk)
        rw [← signs_append c ht] at this
        simp only [decide_eq_true_eq]
        omega
      rw [hnone]; rfl
    · rw [if_neg hh]
      unfold words
      rw [flat_filter_map]
      have hfun : (fun (n : Nat) => addL c rd er d (t ++ [(n : Int)]) (afL rd R (List.replicate 41 0) 32 (pre32 t (c.getD n [])))) =
          fun (i : Nat) => ((words c.length d).filter (fun u => decide (fe 1048576 (signs c (t ++ ((i : Int) :: u))) rd ≤ er))).map ((t ++ [(i : Int)]) ++ ·) := by
        funext n
        have hrow : RowOf rd (signs c (t ++ [(n : Int)])) (afL rd R (List.replicate 41 0) 32 (pre32 t (c.getD n []))) := by
          rw [signs_pre]
          refine af_row hl _ _ _ _ _ hR (fun hhd => .inr ⟨by decide, ?_⟩)
          by_cases ht : t = []
          · subst ht
            rintro ⟨s', hs'⟩
            rw [signs_nil] at hs'
            simp at hs'
          · unfold pre32 at hhd
            rw [if_pos (List.length_pos_iff.2 ht)] at hhd
            simp at hhd
        rw [addL_spec hl her d _ _ (afL_len _ _ hRl _ _ _) hrow]
        congr 1
        refine List.filter_congr fun u _ => ?_
        rw [List.append_assoc]; rfl
      rw [hfun]
theorem txL_spec {c : List Sg} {rd : Sg} {er le : Int} (h : txErr c rd er le = 0) : txL c rd er le = texts c rd er le.toNat := by
  rw [txL, if_pos h]
  unfold txErr at h
  split at h
  · rename_i h1; exact absurd h h1
  · split at h
    · rename_i h1; exact absurd h h1
    · rename_i h2
      split at h
      · rename_i h3
        have hl : rd.length ≤ 40 := chk_one (by simpa using h2)
        unfold texts textsOf
        congr 1
        funext m
        rw [addL_spec hl ⟨h3.1.1, by omega⟩ m [] _ (show (begunL rd).length = 41 from bl_len rd 41) (begun_row hl)]
        rw [List.map_congr_left (g := id) (fun a _ => by simp), List.map_id]
        simp
      · cases h
theorem txErr_zero {c : List Sg} {rd : Sg} {er le : Int} (hf : fault c = 0) (h : chk [rd] = 0) (h3 : (0 ≤ er ∧ er ≤ 3) ∧ 0 ≤ le ∧ le ≤ 5) : txErr c rd er le = 0 := tx_ok hf h h3
theorem chk_sf {rd : Sg} : chk [rd] = signsFault rd [] := by
  have h2 : [rd].all isSigns = (isSigns rd && isSigns []) := by
    have h0 : isSigns [] = true := rfl
    rw [h0, Bool.and_true]; simp
  unfold chk signsFault
  by_cases h : rd.length ≤ 40
  · have h1 : [rd].all (fun s => decide ((s.length : Int) ≤ 40)) = true := by simp; omega
    have h3 : ¬ (40 < rd.length ∨ 40 < ([] : Sg).length) := by simp; omega
    rw [if_pos h1, if_neg h3, h2]
  · have h1 : ¬ [rd].all (fun s => decide ((s.length : Int) ≤ 40)) = true := by simp; omega
    rw [if_neg h1, if_pos (.inl (by omega))]



end Go.Proofs.Ytfbjllabgkabkaa
