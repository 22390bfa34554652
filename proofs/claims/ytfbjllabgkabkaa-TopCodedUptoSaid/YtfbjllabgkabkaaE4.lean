/- Contracts. -/
import Derived.Test.YtfbjllabgkabkaaE3
set_option linter.unusedVariables false
set_option linter.unusedSimpArgs false
namespace Go.Proofs.Ytfbjllabgkabkaa
open Go Go.RowKit Go.Gv Go.Fl

theorem sp_split : ∀ {a b x y : Sg}, (∀ z ∈ a, z ≠ 32) → (∀ z ∈ b, z ≠ 32) → (x = [] ∨ x.head? = some 32) → (y = [] ∨ y.head? = some 32) → a ++ x = b ++ y → a = b ∧ x = y
  | [], [], x, y, _, _, _, _, h => ⟨rfl, h⟩
  | [], z :: b, x, y, _, hb, hx, _, h => by
    rw [List.nil_append] at h
    subst h
    rcases hx with h | h
    · cases h
    · injection h with h; exact absurd h (hb z (by simp))
  | z :: a, [], x, y, ha, _, _, hy, h => by
    rw [List.nil_append] at h
    subst h
    rcases hy with h | h
    · cases h
    · injection h with h; exact absurd h (ha z (by simp))
  | z :: a, z' :: b, x, y, ha, hb, hx, hy, h => by
    injection h with h1 h2
    subst h1
    obtain ⟨h3, h4⟩ := sp_split (fun w hw => ha w (by simp [hw])) (fun w hw => hb w (by simp [hw])) hx hy h2
    exact ⟨by rw [h3], h4⟩
theorem signs_cons (c : List Sg) (n : Int) (t : List Int) : signs c (n :: t) = c.getD n.toNat [] ++ (if t = [] then [] else [32] ++ signs c t) := by
  have := signs_append c (t := [n]) (by simp) t
  rwa [signs_one] at this
theorem isText_cons {c : List Sg} {n : Int} {t : List Int} (h : isText c (n :: t) = true) : (0 ≤ n ∧ n < (c.length : Int)) ∧ isText c t = true := by
  rw [isText_iff] at h
  exact ⟨h n (by simp), isText_iff.2 fun x hx => h x (by simp [hx])⟩
theorem letter_nsp {c : List Sg} (hc : fault c = 0) {n : Int} (h : 0 ≤ n ∧ n < (c.length : Int)) : ∀ z ∈ c.getD n.toNat [], z ≠ 32 := by
  intro z hz
  have := letter_bytes ((fault_zero hc).2.2 n.toNat (by omega)).1 z hz
  rcases this with h | h <;> rw [h] <;> decide
theorem letter_inj {c : List Sg} (hc : fault c = 0) {n m : Int} (h : 0 ≤ n ∧ n < (c.length : Int)) (h' : 0 ≤ m ∧ m < (c.length : Int)) (he : c.getD n.toNat [] = c.getD m.toNat []) : n = m := by
  have key : ∀ i j : Nat, i < j → j < c.length → c.getD i [] ≠ c.getD j [] := fun i j hij hj hq => by
    have := ((fault_zero hc).2.2 j hj).2
    rw [distinct_bad hij hj hq] at this
    cases this
  rcases Nat.lt_trichotomy n.toNat m.toNat with h1 | h1 | h1
  · exact absurd he (key _ _ h1 (by omega))
  · omega
  · exact absurd he.symm (key _ _ h1 (by omega))
theorem letter_ne {c : List Sg} (hc : fault c = 0) {n : Int} (h : 0 ≤ n ∧ n < (c.length : Int)) : c.getD n.toNat [] ≠ [] := by
  have := letter_at hc (n := n) (by omega)
  intro he; rw [he] at this; simp at this
theorem signs_inj {c : List Sg} (hc : fault c = 0) : ∀ {t u : List Int}, isText c t = true → isText c u = true → signs c t = signs c u → t = u
  | [], [], _, _, _ => rfl
  | [], m :: u, _, hu, h => by
    rw [signs_nil, signs_cons] at h
    exact absurd (List.append_eq_nil_iff.1 h.symm).1 (letter_ne hc (isText_cons hu).1)
  | n :: t, [], ht, _, h => by
    rw [signs_nil, signs_cons] at h
    exact absurd (List.append_eq_nil_iff.1 h).1 (letter_ne hc (isText_cons ht).1)
  | n :: t, m :: u, ht, hu, h => by
    obtain ⟨h1, h2⟩ := isText_cons ht
    obtain ⟨h3, h4⟩ := isText_cons hu
    rw [signs_cons, signs_cons] at h
    obtain ⟨h5, h6⟩ := sp_split (letter_nsp hc h1) (letter_nsp hc h3) (by split <;> simp) (by split <;> simp) h
    have hnm := letter_inj hc h1 h3 h5
    subst hnm
    by_cases h7 : t = []
    · by_cases h8 : u = []
      · rw [h7, h8]
      · rw [if_pos h7, if_neg h8] at h6; simp at h6
    · by_cases h8 : u = []
      · rw [if_neg h7, if_pos h8] at h6; simp at h6
      · rw [if_neg h7, if_neg h8] at h6
        rw [signs_inj hc h2 h4 (List.append_cancel_left h6)]
theorem signs_signs {c : List Sg} (hc : fault c = 0) : ∀ {t : List Int}, isText c t = true → isSigns (signs c t) = true
  | [], _ => rfl
  | n :: t, h => by
    obtain ⟨h1, h2⟩ := isText_cons h
    rw [signs_cons, isSigns_append, Bool.and_eq_true]
    refine ⟨List.all_eq_true.2 fun z hz => ?_, ?_⟩
    · rcases letter_bytes ((fault_zero hc).2.2 n.toNat (by omega)).1 z hz with h | h <;> rw [h] <;> decide
    · split
      · rfl
      · rw [isSigns_append, signs_signs hc h2]; rfl
theorem nodup_texts (c : List Sg) (rd : Sg) (er : Int) (n : Nat) : (texts c rd er n).Nodup := by
  unfold texts
  rw [List.Nodup, List.pairwise_flatMap]
  refine ⟨fun m _ => ?_, ?_⟩
  · exact (nodup_words c.length m).filter _
  · refine List.nodup_range.imp fun {i j} hij x hx y hy he => ?_
    unfold textsOf at hx hy
    have h1 := (mem_words.1 (List.mem_filter.1 hx).1).1
    have h2 := (mem_words.1 (List.mem_filter.1 hy).1).1
    rw [he] at h1
    exact hij (by omega)
theorem list_one {T : List (List Int)} {t : List Int} (hd : T.Nodup) (h : ∀ u, u ∈ T ↔ u = t) : T = [t] := by
  match T with
  | [] => exact absurd ((h t).2 rfl) (by simp)
  | [u] => rw [(h u).1 (by simp)]
  | u :: v :: T =>
    have h1 := (h u).1 (by simp)
    have h2 := (h v).1 (by simp)
    subst h1; subst h2
    simp at hd
theorem chk_signs {c : List Sg} {t : List Int} (hc : fault c = 0) (ht : isText c t = true) (h5 : t.length ≤ 5) : chk [signs c t] = 0 := by
  rw [chk_sf]
  exact sf_mk (by have := signs_len hc ht; omega) (by simp) (signs_signs hc ht) rfl
theorem fe_zero {s r : Sg} (h : fe 1048576 s r ≤ 0) : s = r := by
  have h1 := fe_bounds (F := 1048576) (by decide) s r
  exact (ex_facts (ex_fe (by omega))).2.1 (by omega)
theorem fe_refl (s : Sg) : fe 1048576 s s ≤ 0 := fe_le (ex_refl s)
theorem own_texts {c : List Sg} {t : List Int} (hc : fault c = 0) (ht : isText c t = true) (h5 : t.length ≤ 5) : txL c (signs c t) 0 5 = [t] := by
  rw [txL_spec (txErr_zero hc (chk_signs hc ht h5) (by omega))]
  refine list_one (nodup_texts _ _ _ _) fun u => ?_
  rw [mem_texts]
  constructor
  · rintro ⟨_, h2, h3⟩
    exact signs_inj hc h2 ht (fe_zero h3)
  · rintro rfl
    exact ⟨h5, ht, fe_refl _⟩
theorem ready_all {c : List Sg} {t : List Int} (h : readyB c t = true) : (∀ s ∈ c, s.length ≤ 2097152) ∧ fault c = 0 ∧ t.length ≤ 5 ∧ isText c t = true := by
  unfold readyB at h
  simp only [Bool.and_eq_true, decide_eq_true_eq] at h
  obtain ⟨⟨⟨h1, h2⟩, h3⟩, h4⟩ := h
  refine ⟨?_, h2, by omega, h4⟩
  unfold thin at h1
  simp only [Bool.and_eq_true, List.all_eq_true, decide_eq_true_eq] at h1
  intro s hs
  have := h1.1.2 s hs
  omega
theorem more_texts {c : List Sg} {rd : Sg} {er er' : Int} {n n' : Nat} {t : List Int} (h : t ∈ texts c rd er n) (h1 : er ≤ er') (h2 : n ≤ n') : t ∈ texts c rd er' n' := by
  rw [mem_texts] at *
  exact ⟨by omega, h.2.1, by omega⟩
theorem texts_pre (c : List Sg) (rd : Sg) (er : Int) (n : Nat) : texts c rd er (n + 1) = texts c rd er n ++ textsOf c rd er (n + 1) := by
  unfold texts
  rw [List.range_succ (n := n + 1), List.flatMap_append]; simp
theorem texts_small {c : List Sg} {rd : Sg} {er : Int} {n : Nat} (hc : c.length ≤ 6) (hn : n ≤ 5) : (texts c rd er n).length ≤ 46656 := by
  have hw : ∀ d, (words c.length d).length = c.length ^ d := by
    intro d
    induction d with
    | zero => rfl
    | succ d ih =>
      unfold words
      rw [List.length_flatMap]
      simp only [List.length_map, ih]
      rw [List.map_const']
      simp [Nat.pow_succ, Nat.mul_comm]
  have h1 : ∀ m, m ≤ 5 → (textsOf c rd er m).length ≤ 7776 := fun m hm => by
    unfold textsOf
    refine Nat.le_trans (List.length_filter_le _ _) ?_
    rw [hw]
    refine Nat.le_trans (Nat.pow_le_pow_left hc m) ?_
    exact Nat.le_trans (Nat.pow_le_pow_right (by decide) hm) (by decide)
  have key : ∀ k, k ≤ 5 → (texts c rd er k).length ≤ (k + 1) * 7776 := by
    intro k
    induction k with
    | zero => intro _; have := h1 0 (by omega); unfold texts; simpa using this
    | succ k ih =>
      intro hk
      have := ih (by omega)
      have := h1 (k + 1) hk
      rw [texts_pre, List.length_append]; omega
  have := key n hn
  have : (n + 1) * 7776 ≤ 46656 := by omega
  omega
theorem texts_le5 {c : List Sg} {rd : Sg} {er : Int} {n : Nat} {L : List SV} (hm : L.map (·.xs) = texts c rd er n) (hn : n ≤ 5) : ∀ s ∈ L, s.xs.length ≤ n := by
  intro s hs
  have : s.xs ∈ L.map (·.xs) := List.mem_map.2 ⟨s, hs, rfl⟩
  rw [hm, mem_texts] at this
  exact this.1
theorem sv_at {L : List SV} {i : Nat} (h : i < L.length) : (L.map (·.xs))[i]? = some (L.getD i sv0).xs := by
  rw [List.getElem?_map, List.getD_eq_getElem?_getD, List.getElem?_eq_getElem h]; rfl
theorem more_in {LA LB : List SV} {c : List Sg} {rd : Sg} {er er' : Int} {n n' i : Nat} (hA : LA.map (·.xs) = texts c rd er n) (hB : LB.map (·.xs) = texts c rd er' n') (hi : i < LA.length) (h1 : er ≤ er') (h2 : n ≤ n') : (LB.map (·.xs)).contains (LA.getD i sv0).xs = true := by
  rw [List.contains_iff_mem, hB]
  refine more_texts ?_ h1 h2
  rw [← hA]
  exact List.mem_of_getElem? (sv_at hi)
theorem more_pre {LA LD : List SV} {c : List Sg} {rd : Sg} {er : Int} {n i : Nat} (hA : LA.map (·.xs) = texts c rd er n) (hD : LD.map (·.xs) = texts c rd er (n + 1)) (hi : i < LA.length) : i < LD.length ∧ (LD.getD i sv0).xs = (LA.getD i sv0).xs := by
  rw [texts_pre, ← hA] at hD
  have hl := congrArg List.length hD
  rw [List.length_map, List.length_append, List.length_map] at hl
  have h1 : i < LD.length := by omega
  refine ⟨h1, ?_⟩
  have h2 := sv_at h1
  rw [hD, List.getElem?_append_left (by rw [List.length_map]; exact hi), sv_at hi] at h2
  injection h2 with h2
  exact h2.symm
theorem texts_sv {c : List Sg} {rd : Sg} {er : Int} {n : Nat} {L : List SV} (hm : L.map (·.xs) = texts c rd er n) (hc : c.length ≤ 6) (hn : n ≤ 5) : L.length ≤ 46656 ∧ (∀ s ∈ L, s.xs.length ≤ n) ∧ ∀ s ∈ L, s.xs.length ≤ 2097152 := by
  have h1 := texts_small (c := c) (rd := rd) (er := er) (n := n) hc hn
  rw [← hm, List.length_map] at h1
  exact ⟨h1, texts_le5 hm hn, fun s hs => Nat.le_trans (texts_le5 hm hn s hs) (by omega)⟩



end Go.Proofs.Ytfbjllabgkabkaa
