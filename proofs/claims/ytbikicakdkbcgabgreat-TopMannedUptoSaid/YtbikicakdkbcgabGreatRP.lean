/- Contracts. -/
import Derived.Test.YtbikicakdkbcgabGreatR10
import Derived.Test.YtbikicakdkbcgabGreatR15
set_option linter.unusedVariables false
set_option linter.unusedSimpArgs false
namespace Go.Proofs.YtbikicakdkbcgabGreat
open Go Go.RowKit Go.Gv Go.Fl

/- ---- lists by bits ---- -/
theorem ris_iff {xs : List Int} {be : Int} : risB xs be = true ↔ xs.Pairwise (· < ·) ∧ ∀ x ∈ xs, 0 ≤ x ∧ x ≤ be - 1 := by
  have gd : ∀ {l : List Int} {i : Nat} (h : i < l.length), l.getD i 0 = l[i] := fun {l i} h => by rw [List.getD_eq_getElem?_getD, List.getElem?_eq_getElem h]; rfl
  constructor
  · intro h
    have hk : ∀ k, k < xs.length → lastAt xs k + 1 ≤ xs.getD k 0 ∧ xs.getD k 0 ≤ be - 1 := fun k hk => by
      have := List.all_eq_true.1 h k (List.mem_range.2 hk)
      simpa [rAt] using this
    refine ⟨?_, fun x hx => ?_⟩
    · rw [List.pairwise_iff_getElem]
      have key : ∀ j i, i < j → j < xs.length → xs.getD i 0 < xs.getD j 0 := by
        intro j
        induction j with
        | zero => intro i hi; omega
        | succ j ih =>
          intro i hi hj
          have h1 := (hk (j + 1) hj).1
          simp only [lastAt] at h1
          rcases Nat.lt_succ_iff_lt_or_eq.1 hi with h2 | rfl
          · have := ih i h2 (by omega); omega
          · omega
      intro i j hi hj hij
      have := key j i hij hj
      rwa [gd hi, gd hj] at this
    · obtain ⟨k, hk2, rfl⟩ := List.mem_iff_getElem.1 hx
      have := ris_get h k hk2
      rw [gd hk2] at this
      omega
  · rintro ⟨h1, h2⟩
    refine List.all_eq_true.2 fun k hk => ?_
    have hk := List.mem_range.1 hk
    have h3 := h2 _ (getD_lt (d := 0) hk)
    unfold rAt
    simp only [Bool.and_eq_true, decide_eq_true_eq]
    refine ⟨?_, h3.2⟩
    cases k with
    | zero => simp only [lastAt]; omega
    | succ k =>
      have := List.pairwise_iff_getElem.1 h1 k (k + 1) (by omega) hk (by omega)
      simp only [lastAt]
      rw [gd hk, gd (show k < xs.length by omega)]
      omega
theorem bit_low {m k : Nat} (h : m < 2 ^ k) : bitB m k = false := by unfold bitB; rw [Nat.div_eq_of_lt h]; rfl
theorem bit_top {m k : Nat} (h : m < 2 ^ k) : bitB (m + 2 ^ k) k = true := by
  unfold bitB
  rw [Nat.add_div_right _ (Nat.two_pow_pos k), Nat.div_eq_of_lt h]; rfl
theorem bit_keep {m k j : Nat} (h : j < k) : bitB (m + 2 ^ k) j = bitB m j := by
  unfold bitB
  obtain ⟨d, rfl⟩ : ∃ d, k = j + 1 + d := ⟨k - j - 1, by omega⟩
  have h1 : 2 ^ (j + 1 + d) = 2 ^ j * (2 * 2 ^ d) := by rw [Nat.pow_add, Nat.pow_succ, Nat.mul_assoc]
  rw [h1, Nat.add_mul_div_left _ _ (Nat.two_pow_pos j), Nat.add_mul_mod_self_left]
theorem sub_congr {xs : List Int} {m m' k : Nat} (h : ∀ j, j < k → bitB m' j = bitB m j) : subK xs m' k = subK xs m k := by
  unfold subK
  rw [List.filter_congr (fun j hj => h j (List.mem_range.1 hj))]
theorem sub_top {xs l : List Int} : ∀ {k : Nat}, k ≤ xs.length → l.Sublist (xs.take k) → ∃ m, m < 2 ^ k ∧ subK xs m k = l
  | 0, _, h => ⟨0, Nat.two_pow_pos 0, by rw [List.take_zero] at h; rw [List.sublist_nil.1 h]; rfl⟩
  | k + 1, hk, h => by
    have hx : xs.take (k + 1) = xs.take k ++ [xs.getD k 0] := take_succ_getD (by omega)
    rw [hx, List.sublist_append_iff] at h
    obtain ⟨l1, l2, rfl, h1, h2⟩ := h
    obtain ⟨m, hm, rfl⟩ := sub_top (by omega) h1
    have h3 : l2 = [] ∨ l2 = [xs.getD k 0] := by
      cases h2 with
      | cons _ h => exact .inl (List.sublist_nil.1 h)
      | cons_cons _ h => right; rw [List.sublist_nil.1 h]
    have hp : 2 ^ (k + 1) = 2 ^ k + 2 ^ k := by rw [Nat.pow_succ]; omega
    rcases h3 with rfl | rfl
    · exact ⟨m, by omega, by rw [List.append_nil]; exact (sub_no (bit_low hm)).symm⟩
    · refine ⟨m + 2 ^ k, by omega, ?_⟩
      rw [← sub_yes (bit_top hm), sub_congr (fun j hj => bit_keep hj)]
theorem sub_sub {xs : List Int} {m k : Nat} (hk : k ≤ xs.length) : (subK xs m k).Sublist (xs.take k) := by
  unfold subK
  have h1 : (List.range k).map (fun j => xs.getD j 0) = xs.take k := by
    apply List.ext_getElem
    · simp; omega
    · intro i h1 h2
      have h3 : i < xs.length := by simp at h2; omega
      simp [List.getElem?_eq_getElem h3]
  rw [← h1]
  exact List.Sublist.map _ List.filter_sublist
theorem lists_iff {xs l : List Int} : l ∈ listsL xs ↔ l.Sublist xs := by
  unfold listsL
  rw [(sortL_perm _).mem_iff, List.mem_map]
  constructor
  · rintro ⟨m, _, rfl⟩
    have := sub_sub (xs := xs) (m := m) (Nat.le_refl _)
    rwa [List.take_length] at this
  · intro h
    obtain ⟨m, hm, he⟩ := sub_top (xs := xs) (l := l) (k := xs.length) (Nat.le_refl _) (by rw [List.take_length]; exact h)
    exact ⟨m, List.mem_range.2 hm, he⟩
theorem lists_sorted {xs : List Int} : (listsL xs).Pairwise (fun x y => ltL y x = false) := sortL_sorted _
/-- increasing lists: a part is a list of elements -/
theorem sub_of_mem : ∀ {p l : List Int}, p.Pairwise (· < ·) → l.Pairwise (· < ·) → (∀ x ∈ l, x ∈ p) → l.Sublist p
  | [], l, _, _, h => by
    cases l with
    | nil => exact List.Sublist.slnil
    | cons a l => exact absurd (h a (by simp)) (by simp)
  | b :: p, [], _, _, _ => List.nil_sublist _
  | b :: p, a :: l, hp, hl, h => by
    rw [List.pairwise_cons] at hp hl
    rcases List.mem_cons.1 (h a (by simp)) with rfl | ha
    · refine (sub_of_mem hp.2 hl.2 fun x hx => ?_).cons_cons a
      rcases List.mem_cons.1 (h x (by simp [hx])) with rfl | h2
      · have := hl.1 _ hx; omega
      · exact h2
    · have hab := hp.1 a ha
      refine (sub_of_mem hp.2 (List.pairwise_cons.2 hl) fun x hx => ?_).cons b
      rcases List.mem_cons.1 (h x hx) with rfl | h2
      · rcases List.mem_cons.1 hx with h3 | h3
        · omega
        · have := hl.1 _ h3; omega
      · exact h2
theorem upTo_mem {n : Nat} {i : Int} : i ∈ upTo n ↔ 0 ≤ i ∧ i ≤ (n : Int) - 1 := by
  refine ⟨upTo_on i, fun h => ?_⟩
  unfold upTo
  exact List.mem_map.2 ⟨i.toNat, List.mem_range.2 (by omega), by omega⟩
theorem upTo_lt (n : Nat) : (upTo n).Pairwise (· < ·) := by
  unfold upTo
  rw [List.pairwise_map]
  exact List.pairwise_lt_range.imp (fun h => by omega)
theorem upTo_ris (n : Nat) : risB (upTo n) (n : Int) = true := ris_iff.2 ⟨upTo_lt n, fun _ h => upTo_mem.1 h⟩
theorem ris_sub {n : Nat} {l : List Int} : risB l (n : Int) = true ↔ l ∈ listsL (upTo n) := by
  rw [lists_iff, ris_iff]
  constructor
  · exact fun h => sub_of_mem (upTo_lt n) h.1 fun x hx => upTo_mem.2 (h.2 x hx)
  · exact fun h => ⟨(upTo_lt n).sublist h, fun x hx => upTo_mem.1 (h.subset hx)⟩
theorem ris_in {n : Nat} {p l : List Int} (hp : risB p (n : Int) = true) : l ∈ listsL p ↔ risB l (n : Int) = true ∧ ∀ i ∈ l, i ∈ p := by
  have h1 := ris_iff.1 hp
  rw [lists_iff, ris_iff]
  constructor
  · exact fun h => ⟨⟨h1.1.sublist h, fun x hx => h1.2 x (h.subset hx)⟩, fun i hi => h.subset hi⟩
  · exact fun h => sub_of_mem h1.1 h.1.1 h.2
theorem ris_len {n : Nat} {l : List Int} (h : risB l (n : Int) = true) : l.length ≤ n := by
  have := (lists_mem (ris_sub.1 h)).1
  rwa [upTo_len] at this
/- ---- what has been stood ---- -/
theorem getD_set {l : List Int} {i j : Nat} {v : Int} : (l.set i v).getD j 0 = if i = j ∧ j < l.length then v else l.getD j 0 := by
  rw [List.getD_eq_getElem?_getD, List.getElem?_set]
  by_cases h : i = j
  · subst h
    by_cases h2 : i < l.length
    · simp [h2]
    · simp [h2, List.getElem?_eq_none (Nat.le_of_not_lt h2)]
  · simp [h]
theorem setD_at {S : List Int} {i wt j : Nat} (h8 : S.length = 8) (hi : i < 4) : (setD S i wt).getD j 0 = if j = 2 * i then (wt : Int) else if j = 2 * i + 1 then S.getD (2 * i + 1) 0 + 1 else S.getD j 0 := by
  unfold setD
  rw [getD_set, getD_set, List.length_set]
  have h1 : 0 + i * 2 = 2 * i := by omega
  rw [h1]
  by_cases hj : j = 2 * i
  · subst hj
    rw [if_neg (by omega), if_pos ⟨rfl, by omega⟩, if_pos rfl]
  · by_cases hj2 : j = 2 * i + 1
    · subst hj2
      rw [if_pos ⟨rfl, by omega⟩, if_neg (by omega), if_pos rfl]
    · rw [if_neg (by omega), if_neg (by omega), if_neg hj, if_neg hj2]
abbrev badK (pl : List PV) (wt : Nat) (S : List Int) (k : Nat) : Bool := badD (pl.getD k pv0) (S.getD (2 * k) 0) (S.getD (2 * k + 1) 0) wt
theorem has_no' {l : List Int} {n : Int} (h : ∀ x ∈ l, x ≠ n) : hasI l n = false := List.any_eq_false.2 fun x hx => by simpa using h x hx
theorem setD_len {S : List Int} {i wt : Nat} : (setD S i wt).length = S.length := by simp [setD]
theorem aft_at {pl : List PV} {wt : Nat} : ∀ {on S : List Int}, S.length = 8 → on.Pairwise (· < ·) → (∀ x ∈ on, 0 ≤ x ∧ x ≤ 3) →
    (aftL pl wt S on).2 = on.all (fun i => !badK pl wt S i.toNat) ∧
    ((aftL pl wt S on).2 = true → ∀ j, j < 4 → (aftL pl wt S on).1.getD (2 * j) 0 = (if hasI on (j : Int) = true then (wt : Int) else S.getD (2 * j) 0) ∧ (aftL pl wt S on).1.getD (2 * j + 1) 0 = (if hasI on (j : Int) = true then S.getD (2 * j + 1) 0 + 1 else S.getD (2 * j + 1) 0))
  | [], S, _, _, _ => ⟨rfl, fun _ j _ => ⟨rfl, rfl⟩⟩
  | i :: l, S, h8, hp, hr => by
    rw [List.pairwise_cons] at hp
    have hi := hr i (by simp)
    have hin : i.toNat < 4 := by omega
    have e1 : 0 + i.toNat * 2 + 0 = 2 * i.toNat := by omega
    have e2 : 0 + i.toNat * 2 + 1 = 2 * i.toNat + 1 := by omega
    rw [aftL, e1, e2]
    by_cases hb : badK pl wt S i.toNat = true
    · rw [if_pos hb]
      refine ⟨?_, fun h => by cases h⟩
      rw [List.all_cons, hb]; rfl
    · rw [if_neg hb]
      have hb' : badK pl wt S i.toNat = false := by simpa using hb
      obtain ⟨h1, h2⟩ := aft_at (pl := pl) (wt := wt) (on := l) (S := setD S i.toNat wt) (by rw [setD_len]; exact h8) hp.2 (fun x hx => hr x (by simp [hx]))
      have hk : ∀ x ∈ l, badK pl wt (setD S i.toNat wt) x.toNat = badK pl wt S x.toNat := fun x hx => by
        have h3 := hp.1 x hx
        have h4 := hr x (by simp [hx])
        unfold badK
        rw [setD_at h8 hin, setD_at h8 hin, if_neg (by omega), if_neg (by omega), if_neg (by omega), if_neg (by omega)]
      refine ⟨?_, fun ht j hj => ?_⟩
      · rw [h1, List.all_cons, hb', Bool.not_false, Bool.true_and, Bool.eq_iff_iff, List.all_eq_true, List.all_eq_true]
        exact ⟨fun h x hx => by rw [← hk x hx]; exact h x hx, fun h x hx => by rw [hk x hx]; exact h x hx⟩
      · obtain ⟨h5, h6⟩ := h2 ht j hj
        rw [h5, h6, setD_at h8 hin, setD_at h8 hin]
        have hh : hasI (i :: l) (j : Int) = (decide (i = (j : Int)) || hasI l (j : Int)) := rfl
        rw [hh]
        by_cases hij : i = (j : Int)
        · have hjt : i.toNat = j := by omega
          have hno : hasI l (j : Int) = false := has_no' (fun x hx => by have := hp.1 x hx; omega)
          rw [hno, decide_eq_true hij, hjt]
          simp
        · have hjt : i.toNat ≠ j := by omega
          rw [decide_eq_false hij, Bool.false_or, if_neg (show ¬ 2 * j = 2 * i.toNat by omega), if_neg (show ¬ 2 * j = 2 * i.toNat + 1 by omega), if_neg (show ¬ 2 * j + 1 = 2 * i.toNat by omega), if_neg (show ¬ 2 * j + 1 = 2 * i.toNat + 1 by omega)]
          exact ⟨rfl, rfl⟩
theorem has_iff {l : List Int} {n : Int} : hasI l n = true ↔ n ∈ l := by
  unfold hasI
  rw [List.any_eq_true]
  constructor
  · rintro ⟨x, hx, h⟩; rw [of_decide_eq_true h] at hx; exact hx
  · exact fun h => ⟨n, h, decide_eq_true rfl⟩
/- ---- the rules, person by person ---- -/
def okA (x : PV) (i : Nat) (R : List (List Int)) (a : Nat) : Bool := !hasI (R.getD a []) (i : Int) || (x.ab.getD a false && (List.range a).all (fun b => !hasI (R.getD b []) (i : Int) || decide (x.r ≤ (a : Int) - (b : Int) - 1)))
def cntA (i : Nat) (R : List (List Int)) : Nat := (R.filter (fun on => hasI on (i : Int))).length
def perX (x : PV) (i : Nat) (R : List (List Int)) : Bool := (List.range R.length).all (okA x i R) && decide ((cntA i R : Int) ≤ x.m)
def rulesX (pl : List PV) (R : List (List Int)) : Bool := (List.range pl.length).all (fun k => perX (pl.getD k pv0) k R)
def perB (x : PV) (i : Nat) : Nat → Int → Int → List (List Int) → Bool
  | _, _, _, [] => true
  | wt, la, ma, on :: R => if hasI on (i : Int) = true then !badD x la ma wt && perB x i (wt + 1) (wt : Int) (ma + 1) R else perB x i (wt + 1) la ma R
theorem rul_per {pl : List PV} (hp4 : pl.length ≤ 4) : ∀ {R : List (List Int)} {wt : Nat} {S : List Int}, S.length = 8 → (∀ on ∈ R, risB on (pl.length : Int) = true) →
    rulL pl wt S R = (List.range pl.length).all (fun k => perB (pl.getD k pv0) k wt (S.getD (2 * k) 0) (S.getD (2 * k + 1) 0) R)
  | [], wt, S, _, _ => by
    symm
    exact List.all_eq_true.2 fun k _ => rfl
  | on :: R, wt, S, h8, hR => by
    have hon := ris_iff.1 (hR on (by simp))
    obtain ⟨h1, h2⟩ := aft_at (pl := pl) (wt := wt) h8 hon.1 (fun x hx => by have := hon.2 x hx; omega)
    have ih := rul_per hp4 (R := R) (wt := wt + 1) (S := (aftL pl wt S on).1) (by rw [aft_len]; exact h8) (fun on hx => hR on (by simp [hx]))
    rw [rulL]
    cases ht : (aftL pl wt S on).2 with
    | true =>
      rw [Bool.true_and, ih, Bool.eq_iff_iff, List.all_eq_true, List.all_eq_true]
      have hst : ∀ k ∈ List.range pl.length, perB (pl.getD k pv0) k (wt + 1) ((aftL pl wt S on).1.getD (2 * k) 0) ((aftL pl wt S on).1.getD (2 * k + 1) 0) R = perB (pl.getD k pv0) k wt (S.getD (2 * k) 0) (S.getD (2 * k + 1) 0) (on :: R) := fun k hk => by
        have hk := List.mem_range.1 hk
        obtain ⟨h3, h4⟩ := h2 ht k (by omega)
        rw [h3, h4, perB]
        by_cases hh : hasI on (k : Int) = true
        · rw [if_pos hh, if_pos hh, if_pos hh]
          have h5 := List.all_eq_true.1 (h1.symm.trans ht) _ (has_iff.1 hh)
          rw [Int.toNat_natCast] at h5
          rw [show (!badD (pl.getD k pv0) (S.getD (2 * k) 0) (S.getD (2 * k + 1) 0) wt) = true from h5, Bool.true_and]
        · rw [if_neg hh, if_neg hh, if_neg hh]
      exact ⟨fun h k hk => by rw [← hst k hk]; exact h k hk, fun h k hk => by rw [hst k hk]; exact h k hk⟩
    | false =>
      rw [Bool.false_and]
      symm
      obtain ⟨i, hi, hb⟩ := List.all_eq_false.1 (h1.symm.trans ht)
      have hir := hon.2 i hi
      refine List.all_eq_false.2 ⟨i.toNat, List.mem_range.2 (by omega), ?_⟩
      rw [perB, if_pos (by rw [has_iff]; rw [Int.toNat_of_nonneg hir.1]; exact hi)]
      intro h
      rw [Bool.and_eq_true] at h
      exact hb h.1
theorem getD_app {Q R : List (List Int)} {on : List Int} : (Q ++ on :: R).getD Q.length [] = on := by
  rw [List.getD_eq_getElem?_getD, List.getElem?_append_right (Nat.le_refl _), Nat.sub_self]; rfl
theorem cnt_app {i : Nat} {A B : List (List Int)} : cntA i (A ++ B) = cntA i A + cntA i B := by unfold cntA; rw [List.filter_append, List.length_append]
theorem cnt_sing {i : Nat} {on : List Int} : cntA i [on] = if hasI on (i : Int) = true then 1 else 0 := by
  unfold cntA
  rw [List.filter_cons]
  split <;> rfl
theorem per_run {x : PV} {i : Nat} : ∀ {R Q : List (List Int)} {la ma : Int}, (la = -1 ∧ (∀ b, b < Q.length → hasI (Q.getD b []) (i : Int) = false) ∨ ∃ p : Nat, la = (p : Int) ∧ p < Q.length ∧ hasI (Q.getD p []) (i : Int) = true ∧ ∀ b, p < b → b < Q.length → hasI (Q.getD b []) (i : Int) = false) →
    ma = (cntA i Q : Int) → ma ≤ x.m → (perB x i Q.length la ma R = true ↔ (∀ a, Q.length ≤ a → a < (Q ++ R).length → okA x i (Q ++ R) a = true) ∧ (cntA i (Q ++ R) : Int) ≤ x.m)
  | [], Q, la, ma, _, hma, hm => by
    rw [List.append_nil, perB]
    exact ⟨fun _ => ⟨fun a h1 h2 => by omega, by omega⟩, fun _ => rfl⟩
  | on :: R, Q, la, ma, hla, hma, hm => by
    have hap : Q ++ on :: R = (Q ++ [on]) ++ R := by simp
    have hlen : (Q ++ [on]).length = Q.length + 1 := by simp
    have gl : ∀ b, b < Q.length → (Q ++ [on]).getD b [] = Q.getD b [] := fun b hb => by
      rw [List.getD_eq_getElem?_getD, List.getElem?_append_left hb, List.getD_eq_getElem?_getD]
    have gl2 : ∀ b, b < Q.length → (Q ++ on :: R).getD b [] = Q.getD b [] := fun b hb => by
      rw [List.getD_eq_getElem?_getD, List.getElem?_append_left hb, List.getD_eq_getElem?_getD]
    have gm : (Q ++ [on]).getD Q.length [] = on := getD_app
    rw [perB]
    by_cases hh : hasI on (i : Int) = true
    · rw [if_pos hh]
      have hok : okA x i (Q ++ on :: R) Q.length = (x.ab.getD Q.length false && (decide (la = -1) || decide (x.r ≤ (Q.length : Int) - la - 1))) := by
        unfold okA
        rw [getD_app, hh, Bool.not_true, Bool.false_or]
        congr 1
        rw [Bool.eq_iff_iff, List.all_eq_true, Bool.or_eq_true, decide_eq_true_eq, decide_eq_true_eq]
        constructor
        · intro h
          rcases hla with ⟨h1, _⟩ | ⟨p, rfl, hp, hpx, _⟩
          · exact .inl h1
          · right
            have := h p (List.mem_range.2 hp)
            rw [gl2 p hp, hpx, Bool.not_true, Bool.false_or, decide_eq_true_eq] at this
            exact this
        · intro h b hb
          have hb := List.mem_range.1 hb
          rw [gl2 b hb, Bool.or_eq_true, Bool.not_eq_true', decide_eq_true_eq]
          rcases hla with ⟨_, h2⟩ | ⟨p, rfl, hp, hpx, h3⟩
          · exact .inl (h2 b hb)
          · rcases Nat.lt_or_ge p b with h4 | h4
            · exact .inl (h3 b h4 hb)
            · right
              rcases h with h | h
              · omega
              · omega
      have hbad : (!badD x la ma Q.length) = (okA x i (Q ++ on :: R) Q.length && decide (ma < x.m)) := by
        rw [hok]
        unfold badD
        rw [Bool.eq_iff_iff]
        simp only [Bool.not_eq_true', Bool.or_eq_false_iff, Bool.not_eq_false', decide_eq_false_iff_not, Bool.and_eq_false_iff, Bool.and_eq_true, Bool.or_eq_true, decide_eq_true_eq]
        constructor
        · rintro ⟨h1, h2, h3⟩
          refine ⟨⟨h1, ?_⟩, by omega⟩
          rcases h3 with h3 | h3
          · exact .inl h3
          · right; omega
        · rintro ⟨⟨h1, h2⟩, h3⟩
          refine ⟨h1, by omega, ?_⟩
          rcases h2 with h2 | h2
          · exact .inl h2
          · right; omega
      have hcnt : cntA i (Q ++ [on]) = cntA i Q + 1 := by
        rw [cnt_app, cnt_sing, if_pos hh]
      rw [hbad]
      by_cases hlt : ma < x.m
      · have ih := per_run (x := x) (i := i) (R := R) (Q := Q ++ [on]) (la := (Q.length : Int)) (ma := ma + 1) (.inr ⟨Q.length, rfl, by omega, by rw [gm]; exact hh, fun b h1 h2 => by omega⟩) (by omega) (by omega)
        rw [hlen, ← hap] at ih
        rw [decide_eq_true hlt, Bool.and_true, Bool.and_eq_true, ih]
        constructor
        · rintro ⟨h1, h2, h3⟩
          refine ⟨fun a ha hb => ?_, h3⟩
          rcases Nat.lt_or_ge Q.length a with h4 | h4
          · exact h2 a h4 hb
          · rw [show a = Q.length by omega]; exact h1
        · rintro ⟨h1, h2⟩
          exact ⟨h1 _ (Nat.le_refl _) (by simp), fun a ha hb => h1 a (by omega) hb, h2⟩
      · rw [decide_eq_false hlt, Bool.and_false, Bool.false_and]
        have : cntA i (Q ++ on :: R) = cntA i (Q ++ [on]) + cntA i R := by rw [hap, cnt_app]
        exact ⟨fun h => absurd h (by decide), fun h => by have := h.2; omega⟩
    · rw [if_neg hh]
      have hh' : hasI on (i : Int) = false := by simpa using hh
      have hcnt : cntA i (Q ++ [on]) = cntA i Q := by
        rw [cnt_app, cnt_sing, if_neg hh]; rfl
      have ih := per_run (x := x) (i := i) (R := R) (Q := Q ++ [on]) (la := la) (ma := ma) (by
        rcases hla with ⟨h1, h2⟩ | ⟨p, h1, hp, hpx, h3⟩
        · refine .inl ⟨h1, fun b hb => ?_⟩
          rcases Nat.lt_or_ge b Q.length with h4 | h4
          · rw [gl b h4]; exact h2 b h4
          · rw [show b = Q.length by omega, gm]; exact hh'
        · refine .inr ⟨p, h1, by omega, by rw [gl p hp]; exact hpx, fun b hb hb2 => ?_⟩
          rcases Nat.lt_or_ge b Q.length with h4 | h4
          · rw [gl b h4]; exact h3 b hb h4
          · rw [show b = Q.length by omega, gm]; exact hh') (by omega) hm
      rw [hlen, ← hap] at ih
      rw [ih]
      constructor
      · rintro ⟨h2, h3⟩
        refine ⟨fun a ha hb => ?_, h3⟩
        rcases Nat.lt_or_ge Q.length a with h4 | h4
        · exact h2 a h4 hb
        · rw [show a = Q.length by omega]; unfold okA; rw [getD_app, hh']; rfl
      · rintro ⟨h1, h2⟩
        exact ⟨fun a ha hb => h1 a (by omega) hb, h2⟩
theorem per_eq {x : PV} {i : Nat} {R : List (List Int)} (hm : 0 ≤ x.m) : perB x i 0 (-1) 0 R = perX x i R := by
  rw [Bool.eq_iff_iff]
  have h := per_run (x := x) (i := i) (R := R) (Q := []) (la := -1) (ma := 0) (.inl ⟨rfl, fun b hb => by cases hb⟩) rfl hm
  rw [List.length_nil] at h
  rw [h]
  unfold perX
  rw [Bool.and_eq_true, List.all_eq_true, decide_eq_true_eq]
  exact ⟨fun ⟨h1, h2⟩ => ⟨fun a ha => h1 a (Nat.zero_le _) (List.mem_range.1 ha), h2⟩, fun ⟨h1, h2⟩ => ⟨fun a _ ha => h1 a (List.mem_range.2 ha), h2⟩⟩
theorem stood0_at {k : Nat} (h : k < 4) : stood0.getD (2 * k) 0 = -1 ∧ stood0.getD (2 * k + 1) 0 = 0 := by
  rcases (show k = 0 ∨ k = 1 ∨ k = 2 ∨ k = 3 by omega) with rfl | rfl | rfl | rfl <;> decide
/-- what is asked in passing is what the document says, person by person -/
theorem rul_eq {pl : List PV} {R : List (List Int)} (hp4 : pl.length ≤ 4) (hm : ∀ x ∈ pl, 0 ≤ x.m) (hR : ∀ on ∈ R, risB on (pl.length : Int) = true) : rulL pl 0 stood0 R = rulesX pl R := by
  rw [rul_per hp4 rfl hR]
  unfold rulesX
  rw [Bool.eq_iff_iff, List.all_eq_true, List.all_eq_true]
  have hst : ∀ k ∈ List.range pl.length, perB (pl.getD k pv0) k 0 (stood0.getD (2 * k) 0) (stood0.getD (2 * k + 1) 0) R = perX (pl.getD k pv0) k R := fun k hk => by
    have hk := List.mem_range.1 hk
    have h1 := stood0_at (k := k) (by omega)
    rw [h1.1, h1.2, per_eq (hm _ (getD_lt (d := pv0) hk))]
  exact ⟨fun h k hk => by rw [← hst k hk]; exact h k hk, fun h k hk => by rw [hst k hk]; exact h k hk⟩

/- ---- one watch after the other ---- -/
def okS (nd : List Int) (pl : List PV) (C : List (List Int)) (wt : Nat) (S on : List Int) : Bool := (aftL pl wt S on).2 && holdsP C (nd.getD wt 0) wt on
def chn (nd : List Int) (pl : List PV) (C : List (List Int)) : Nat → List Int → List (List Int) → Bool
  | _, _, [] => true
  | wt, S, on :: R => okS nd pl C wt S on && chn nd pl C (wt + 1) (aftL pl wt S on).1 R
def dut (R : List (List Int)) : Int := (R.flatten.length : Int)
theorem dut_cons {on : List Int} {R : List (List Int)} : dut (on :: R) = (on.length : Int) + dut R := by unfold dut; rw [List.flatten_cons, List.length_append]; omega
theorem dut_nil : dut [] = 0 := rfl
/-- a rota is smaller than another one -/
def smB : List (List Int) → List (List Int) → Bool
  | a :: A, b :: B => if (ltL a b || ltL b a) = true then ltL a b else smB A B
  | _, _ => false
theorem chn_eq {nd : List Int} {pl : List PV} {C : List (List Int)} : ∀ {R : List (List Int)} {wt : Nat} {S : List Int}, chn nd pl C wt S R = (rulL pl wt S R && (List.range R.length).all (fun k => holdsP C (nd.getD (wt + k) 0) (wt + k) (R.getD k [])))
  | [], wt, S => rfl
  | on :: R, wt, S => by
    have h1 : (List.range (on :: R).length).all (fun k => holdsP C (nd.getD (wt + k) 0) (wt + k) ((on :: R).getD k [])) = (holdsP C (nd.getD wt 0) wt on && (List.range R.length).all (fun k => holdsP C (nd.getD (wt + 1 + k) 0) (wt + 1 + k) (R.getD k []))) := by
      rw [List.length_cons, List.range_succ_eq_map, List.all_cons, List.all_map]
      congr 1
      congr 1
      funext k
      show holdsP C (nd.getD (wt + (k + 1)) 0) (wt + (k + 1)) ((on :: R).getD (k + 1) []) = _
      rw [show wt + (k + 1) = wt + 1 + k by omega]
      rfl
    rw [chn, rulL, h1, chn_eq (R := R)]
    unfold okS
    cases (aftL pl wt S on).2 <;> cases holdsP C (nd.getD wt 0) wt on <;> simp
/-- lists of LS are increasing -/
def LsOk (LS : List (List Int)) : Prop := ∀ on ∈ LS, on.Pairwise (· < ·) ∧ (∀ x ∈ on, 0 ≤ x ∧ x ≤ 3)
theorem nx_okS {nd : List Int} {pl : List PV} {C : List (List Int)} {wt : Nat} {S on : List Int} (h8 : S.length = 8) (hp : on.Pairwise (· < ·)) (hr : ∀ x ∈ on, 0 ≤ x ∧ x ≤ 3) : nxOK nd pl C wt S on = okS nd pl C wt S on := by
  unfold nxOK okS
  by_cases hs : (aftL pl wt S on).1 = S
  · by_cases hn : 0 < nd.getD wt 0
    · rw [decide_eq_true hs, decide_eq_true hn, Bool.true_and, Bool.not_true, Bool.false_and]
      cases on with
      | nil =>
        symm
        rw [Bool.and_eq_false_iff]; right
        unfold holdsP
        rw [Bool.and_eq_false_iff]; right
        rw [decide_eq_false_iff_not, List.length_nil]; omega
      | cons i l =>
        symm
        rw [Bool.and_eq_false_iff]; left
        rw [← Bool.not_eq_true]
        intro ht
        have hi := hr i (by simp)
        have h1 := ((aft_at (pl := pl) (wt := wt) h8 hp hr).2 ht i.toNat (by omega)).2
        rw [if_pos (by rw [has_iff, Int.toNat_of_nonneg hi.1]; simp), hs] at h1
        omega
    · rw [decide_eq_false hn, Bool.and_false, Bool.not_false, Bool.true_and]
  · rw [decide_eq_false hs, Bool.false_and, Bool.not_false, Bool.true_and]
section
variable {nd : List Int} {pl : List PV} {C LS : List (List Int)} {wt : Nat} {S : List Int}
theorem fold_le0 : ∀ {l : List (List Int)} {x : Int}, l.foldl (rstep nd pl C LS wt S) x ≤ x
  | [], x => Int.le_refl _
  | on :: l, x => by
    rw [List.foldl_cons]
    refine Int.le_trans (fold_le0 (l := l)) ?_
    unfold rstep
    split <;> omega
theorem fold_le : ∀ {l : List (List Int)} {x : Int} {on : List Int}, on ∈ l → nxOK nd pl C wt S on = true → l.foldl (rstep nd pl C LS wt S) x ≤ (on.length : Int) + rfe nd pl C LS (wt + 1) (aftL pl wt S on).1
  | [], x, on, h, _ => by simp at h
  | a :: l, x, on, h, hn => by
    rw [List.foldl_cons]
    rcases List.mem_cons.1 h with rfl | h
    · refine Int.le_trans (fold_le0 (l := l)) ?_
      unfold rstep
      rw [if_pos hn]; omega
    · exact fold_le h hn
theorem fold_at : ∀ {l : List (List Int)} {x : Int}, l.foldl (rstep nd pl C LS wt S) x = x ∨ ∃ on ∈ l, nxOK nd pl C wt S on = true ∧ l.foldl (rstep nd pl C LS wt S) x = (on.length : Int) + rfe nd pl C LS (wt + 1) (aftL pl wt S on).1
  | [], x => .inl rfl
  | a :: l, x => by
    rw [List.foldl_cons]
    rcases fold_at (l := l) (x := rstep nd pl C LS wt S x a) with h | ⟨on, h1, h2, h3⟩
    · rw [h]
      unfold rstep
      by_cases hn : nxOK nd pl C wt S a = true
      · rw [if_pos hn]
        rcases (show x ≤ (a.length : Int) + rfe nd pl C LS (wt + 1) (aftL pl wt S a).1 ∨ (a.length : Int) + rfe nd pl C LS (wt + 1) (aftL pl wt S a).1 ≤ x by omega) with h4 | h4
        · left; omega
        · exact .inr ⟨a, by simp, hn, by omega⟩
      · rw [if_neg hn]; exact .inl rfl
    · exact .inr ⟨on, by simp [h1], h2, h3⟩
/-- the fewest duties are not more than those of any way on -/
theorem rfe_le (hLS : LsOk LS) : ∀ {R : List (List Int)} {wt : Nat} {S : List Int}, wt + R.length = nd.length → S.length = 8 → (∀ on ∈ R, on ∈ LS) → chn nd pl C wt S R = true → rfe nd pl C LS wt S ≤ dut R
  | [], wt, S, hl, _, _, _ => by rw [rfe_end (by simp at hl; omega)]; exact Int.le_refl _
  | on :: R, wt, S, hl, h8, hin, hc => by
    rw [List.length_cons] at hl
    rw [chn, Bool.and_eq_true] at hc
    have hon := hin on (by simp)
    rw [rfe_succ (by omega), dut_cons]
    refine Int.le_trans (fold_le hon (by rw [nx_okS h8 (hLS on hon).1 (hLS on hon).2]; exact hc.1)) ?_
    have := rfe_le hLS (R := R) (wt := wt + 1) (S := (aftL pl wt S on).1) (by omega) (by rw [aft_len]; exact h8) (fun x hx => hin x (by simp [hx])) hc.2
    omega
/-- the rota that is returned: it has the fewest duties, and none that has as many is smaller -/
theorem rext_spec (hLS : LsOk LS) (hso : LS.Pairwise (fun x y => ltL y x = false)) : ∀ {n wt : Nat} {S : List Int}, wt + n = nd.length → S.length = 8 → rfe nd pl C LS wt S < 1024 →
    (rext nd pl C LS wt S).length = n ∧ (∀ on ∈ rext nd pl C LS wt S, on ∈ LS) ∧ chn nd pl C wt S (rext nd pl C LS wt S) = true ∧ dut (rext nd pl C LS wt S) = rfe nd pl C LS wt S ∧
    ∀ R', R'.length = n → (∀ on ∈ R', on ∈ LS) → chn nd pl C wt S R' = true → dut R' = rfe nd pl C LS wt S → smB R' (rext nd pl C LS wt S) = false
  | 0, wt, S, hl, _, _ => by
    rw [rext_end (by omega), rfe_end (by omega)]
    exact ⟨rfl, fun _ h => by simp at h, rfl, rfl, fun R' hR' _ _ _ => by rw [List.length_eq_zero_iff.1 hR']; rfl⟩
  | n + 1, wt, S, hl, h8, hlt => by
    have hwt : wt < nd.length := by omega
    have hf := rfe_succ (nd := nd) (pl := pl) (C := C) (LS := LS) (wt := wt) (S0 := S) hwt
    have hex : ∃ on ∈ LS, exB nd pl C LS wt S on = true := by
      rcases fold_at (nd := nd) (pl := pl) (C := C) (LS := LS) (wt := wt) (S := S) (l := LS) (x := 1024) with h | ⟨on, h1, h2, h3⟩
      · rw [← hf] at h; omega
      · exact ⟨on, h1, by unfold exB; rw [h2, Bool.true_and, decide_eq_true_eq, hf, h3]⟩
    rw [rext_succ hwt]
    cases hfi : LS.find? (exB nd pl C LS wt S) with
    | none =>
      obtain ⟨on, h1, h2⟩ := hex
      exact absurd h2 (List.find?_eq_none.1 hfi on h1)
    | some on =>
      simp only
      obtain ⟨hx, ls, bs, hsp, has⟩ := List.find?_eq_some_iff_append.1 hfi
      have hon : on ∈ LS := by rw [hsp]; simp
      have hxn := hx
      unfold exB at hxn
      rw [Bool.and_eq_true, decide_eq_true_eq] at hxn
      have hok : okS nd pl C wt S on = true := by rw [← nx_okS h8 (hLS on hon).1 (hLS on hon).2]; exact hxn.1
      have hS8 : (aftL pl wt S on).1.length = 8 := by rw [aft_len]; exact h8
      obtain ⟨i1, i2, i3, i4, i5⟩ := rext_spec hLS hso (n := n) (wt := wt + 1) (S := (aftL pl wt S on).1) (by omega) hS8 (by have := (rfe_bnd nd pl C LS (wt + 1) (aftL pl wt S on).1).1; omega)
      refine ⟨by rw [List.length_cons, i1], fun x hxm => ?_, by rw [chn, hok, i3]; rfl, by rw [dut_cons, i4]; exact hxn.2, fun R' hR' hin hc hd => ?_⟩
      · rcases List.mem_cons.1 hxm with rfl | h
        · exact hon
        · exact i2 x h
      · cases R' with
        | nil => simp at hR'
        | cons on' R' =>
          rw [chn, Bool.and_eq_true] at hc
          have hon' := hin on' (by simp)
          have hnx : nxOK nd pl C wt S on' = true := by rw [nx_okS h8 (hLS on' hon').1 (hLS on' hon').2]; exact hc.1
          have hl' : R'.length = n := by simpa using hR'
          have h9 : (aftL pl wt S on').1.length = 8 := by rw [aft_len]; exact h8
          have hle := rfe_le hLS (R := R') (wt := wt + 1) (S := (aftL pl wt S on').1) (by omega) h9 (fun x hx => hin x (by simp [hx])) hc.2
          have hge : rfe nd pl C LS wt S ≤ (on'.length : Int) + rfe nd pl C LS (wt + 1) (aftL pl wt S on').1 := by rw [hf]; exact fold_le hon' hnx
          rw [dut_cons] at hd
          have hx' : exB nd pl C LS wt S on' = true := by unfold exB; rw [hnx, Bool.true_and, decide_eq_true_eq]; omega
          have hno : ltL on' on = false := by
            rw [hsp] at hon'
            rcases List.mem_append.1 hon' with h1 | h1
            · have := has on' h1; rw [hx'] at this; exact absurd this (by decide)
            · rcases List.mem_cons.1 h1 with rfl | h1
              · exact ltL_irrefl _
              · rw [hsp, List.pairwise_append] at hso
                exact (List.pairwise_cons.1 hso.2.1).1 on' h1
          rw [smB]
          split
          · exact hno
          · rename_i h1
            rw [hno, Bool.false_or] at h1
            rcases ltL_total on' on with h2 | rfl | h2
            · rw [hno] at h2; cases h2
            · exact i5 R' hl' (fun x hx => hin x (by simp [hx])) hc.2 (by omega)
            · exact absurd h2 h1
end
/-- a rota: an increasing list of people for each watch -/
def IsR (nd : List Int) (n : Nat) (R : List (List Int)) : Prop := R.length = nd.length ∧ ∀ on ∈ R, risB on (n : Int) = true
theorem lsOk {n : Nat} {p : List Int} (h4 : n ≤ 4) (hp : risB p (n : Int) = true) : LsOk (listsL p) := fun on hon => by
  have := ris_iff.1 ((ris_in hp).1 hon).1
  exact ⟨this.1, fun x hx => by have := this.2 x hx; omega⟩
theorem dut_le {n : Nat} : ∀ {R : List (List Int)}, (∀ on ∈ R, risB on (n : Int) = true) → dut R ≤ (R.length * n : Nat)
  | [], _ => by rw [dut_nil]; omega
  | on :: R, h => by
    have h1 := ris_len (h on (by simp))
    have h2 := dut_le (R := R) (fun x hx => h x (by simp [hx]))
    rw [dut_cons, List.length_cons, Nat.add_mul, Nat.one_mul]; omega
theorem dut_small {nd : List Int} {n : Nat} {R : List (List Int)} (h5 : nd.length ≤ 5) (h4 : n ≤ 4) (h : IsR nd n R) : dut R ≤ 20 := by
  have h1 := dut_le h.2
  rw [h.1] at h1
  have h2 : nd.length * n ≤ 5 * 4 := Nat.mul_le_mul h5 h4
  omega
section
variable {nd : List Int} {pl : List PV} {L : List SV}
theorem best_spec (hok : faultP (po nd pl L) = 0) : (bestR nd pl L = ([], 0, 10) ∧ ∀ R, IsR nd pl.length R → chn nd pl (L.map (·.xs)) 0 stood0 R = false) ∨
    ∃ R, bestR nd pl L = (R, dut R, 0) ∧ IsR nd pl.length R ∧ chn nd pl (L.map (·.xs)) 0 stood0 R = true ∧ ∀ R', IsR nd pl.length R' → chn nd pl (L.map (·.xs)) 0 stood0 R' = true → dut R < dut R' ∨ dut R = dut R' ∧ smB R' R = false := by
  obtain ⟨⟨hn1, hn5⟩, ⟨hp1, hp4⟩, hL4, hnn, hpp, hLL⟩ := po_ok hok
  have hLS := lsOk hp4 (upTo_ris pl.length)
  have hin : ∀ {R}, IsR nd pl.length R → ∀ on ∈ R, on ∈ listsL (upTo pl.length) := fun h on hon => ris_sub.1 (h.2 on hon)
  by_cases h : 1024 ≤ rfe nd pl (L.map (·.xs)) (listsL (upTo pl.length)) 0 stood0
  · refine .inl ⟨best_2 hok h, fun R hR => ?_⟩
    rw [← Bool.not_eq_true]
    intro hc
    have h1 := rfe_le hLS (R := R) (wt := 0) (S := stood0) (by rw [hR.1]; omega) rfl (hin hR) hc
    have h2 := dut_small hn5 hp4 hR
    omega
  · obtain ⟨h1, h2, h3, h4, h5⟩ := rext_spec (nd := nd) (pl := pl) (C := L.map (·.xs)) hLS lists_sorted (n := nd.length) (wt := 0) (S := stood0) (by omega) rfl (by omega)
    refine .inr ⟨_, by rw [best_3 hok (by omega), h4], ⟨h1, fun on hon => ris_sub.2 (h2 on hon)⟩, h3, fun R' hR' hc' => ?_⟩
    have h6 := rfe_le hLS (R := R') (wt := 0) (S := stood0) (by rw [hR'.1]; omega) rfl (hin hR') hc'
    rcases (show dut (rext nd pl (L.map (·.xs)) (listsL (upTo pl.length)) 0 stood0) < dut R' ∨ dut (rext nd pl (L.map (·.xs)) (listsL (upTo pl.length)) 0 stood0) = dut R' by omega) with h7 | h7
    · exact .inl h7
    · exact .inr ⟨h7, h5 R' hR'.1 (hin hR') hc' (by omega)⟩
theorem can_iff (hok : faultP (po nd pl L) = 0) {p : List Int} (hp : risB p (pl.length : Int) = true) : canP nd pl (L.map (·.xs)) p = true ↔ ∃ R, IsR nd pl.length R ∧ (∀ on ∈ R, ∀ i ∈ on, i ∈ p) ∧ chn nd pl (L.map (·.xs)) 0 stood0 R = true := by
  obtain ⟨⟨hn1, hn5⟩, ⟨hp1, hp4⟩, hL4, hnn, hpp, hLL⟩ := po_ok hok
  have hLS := lsOk hp4 hp
  unfold canP
  rw [decide_eq_true_eq]
  constructor
  · intro h
    obtain ⟨h1, h2, h3, _⟩ := rext_spec (nd := nd) (pl := pl) (C := L.map (·.xs)) hLS lists_sorted (n := nd.length) (wt := 0) (S := stood0) (by omega) rfl h
    exact ⟨_, ⟨h1, fun on hon => ((ris_in hp).1 (h2 on hon)).1⟩, fun on hon => ((ris_in hp).1 (h2 on hon)).2, h3⟩
  · rintro ⟨R, hR, hRp, hc⟩
    have h1 := rfe_le hLS (R := R) (wt := 0) (S := stood0) (by rw [hR.1]; omega) rfl (fun on hon => (ris_in hp).2 ⟨hR.2 on hon, hRp on hon⟩) hc
    have h2 := dut_small hn5 hp4 hR
    omega
theorem enough_spec (hok : faultP (po nd pl L) = 0) : (enoughR nd pl L = (10, []) ∧ ∀ R, IsR nd pl.length R → chn nd pl (L.map (·.xs)) 0 stood0 R = false) ∨
    ∃ l, enoughR nd pl L = (0, l) ∧ risB l (pl.length : Int) = true ∧ canP nd pl (L.map (·.xs)) l = true ∧ ∀ l', risB l' (pl.length : Int) = true → canP nd pl (L.map (·.xs)) l' = true → ltL l' l = false := by
  unfold enoughR
  rw [if_pos hok]
  cases hf : (listsL (upTo pl.length)).find? (canP nd pl (L.map (·.xs))) with
  | none =>
    refine .inl ⟨rfl, fun R hR => ?_⟩
    have h1 := List.find?_eq_none.1 hf (upTo pl.length) (ris_sub.1 (upTo_ris _))
    rw [can_iff hok (upTo_ris _)] at h1
    rw [← Bool.not_eq_true]
    exact fun hc => h1 ⟨R, hR, fun on hon i hi => upTo_mem.2 ((ris_iff.1 (hR.2 on hon)).2 i hi), hc⟩
  | some l =>
    obtain ⟨hx, ls, bs, hsp, has⟩ := List.find?_eq_some_iff_append.1 hf
    refine .inr ⟨l, rfl, ris_sub.2 (by rw [hsp]; simp), hx, fun l' hl' hc => ?_⟩
    have hm := ris_sub.1 hl'
    have hso := lists_sorted (xs := upTo pl.length)
    rw [hsp] at hm hso
    rcases List.mem_append.1 hm with h1 | h1
    · have := has l' h1; rw [hc] at this; exact absurd this (by decide)
    · rcases List.mem_cons.1 h1 with rfl | h1
      · exact ltL_irrefl _
      · rw [List.pairwise_append] at hso
        exact (List.pairwise_cons.1 hso.2.1).1 l' h1
/-- both are there, or none -/
theorem best_enough (hok : faultP (po nd pl L) = 0) : (bestR nd pl L).2.2 = (enoughR nd pl L).1 ∧ ((bestR nd pl L).2.2 = 0 ∨ (bestR nd pl L).2.2 = 10) := by
  rcases best_spec hok with ⟨h1, h2⟩ | ⟨R, h1, h2, h3, _⟩ <;> rcases enough_spec hok with ⟨h4, h5⟩ | ⟨l, h4, h5, h6, _⟩
  · rw [h1, h4]; exact ⟨rfl, .inr rfl⟩
  · obtain ⟨R, hR, _, hc⟩ := (can_iff hok h5).1 h6
    rw [h2 R hR] at hc; cases hc
  · rw [h5 R h2] at h3; cases h3
  · rw [h1, h4]; exact ⟨rfl, .inl rfl⟩
end

/- ---- what counts of a post ---- -/
section
variable {pl pl' : List PV}
theorem pv_at (h : pl'.map PV.pn = pl.map PV.pn) (i : Nat) : (pl'.getD i pv0).pn = (pl.getD i pv0).pn := by
  have h1 : ∀ l : List PV, (l.getD i pv0).pn = (l.map PV.pn).getD i pv0.pn := fun l => by
    rw [List.getD_eq_getElem?_getD, List.getD_eq_getElem?_getD, List.getElem?_map]; cases l[i]? <;> rfl
  rw [h1, h1, h]
theorem pn_len (h : pl'.map PV.pn = pl.map PV.pn) : pl'.length = pl.length := by simpa using congrArg List.length h
theorem bad_pn {x y : PV} (h : x.pn = y.pn) : badD x = badD y := by
  obtain ⟨a, c, ab, r, m⟩ := x
  obtain ⟨a2, c2, ab2, r2, m2⟩ := y
  unfold PV.pn at h
  injection h with h1 h2 h3
  subst h1; subst h2; subst h3; rfl
theorem aftL_pn (h : pl'.map PV.pn = pl.map PV.pn) : aftL pl' = aftL pl := by
  funext wt S on
  induction on generalizing S with
  | nil => rfl
  | cons i l ih => rw [aftL, aftL, bad_pn (pv_at h _), ih]
theorem nx_pn {nd : List Int} {C : List (List Int)} (h : pl'.map PV.pn = pl.map PV.pn) : nxOK nd pl' C = nxOK nd pl C := by
  funext wt S on
  unfold nxOK
  rw [aftL_pn h]
theorem rfeN_pn {nd : List Int} {C LS : List (List Int)} (h : pl'.map PV.pn = pl.map PV.pn) : ∀ n, rfeN nd pl' C LS n = rfeN nd pl C LS n
  | 0 => rfl
  | n + 1 => by
    funext wt S
    rw [rfeN, rfeN, nx_pn h, aftL_pn h, rfeN_pn h n]
theorem rfe_pn {nd : List Int} {C LS : List (List Int)} (h : pl'.map PV.pn = pl.map PV.pn) : rfe nd pl' C LS = rfe nd pl C LS := by
  funext wt S
  unfold rfe
  rw [rfeN_pn h]
theorem exB_pn {nd : List Int} {C LS : List (List Int)} (h : pl'.map PV.pn = pl.map PV.pn) : exB nd pl' C LS = exB nd pl C LS := by
  funext wt S on
  unfold exB
  rw [nx_pn h, rfe_pn h, aftL_pn h]
theorem rextN_pn {nd : List Int} {C LS : List (List Int)} (h : pl'.map PV.pn = pl.map PV.pn) : ∀ n, rextN nd pl' C LS n = rextN nd pl C LS n
  | 0 => rfl
  | n + 1 => by
    funext wt S
    rw [rextN, rextN, exB_pn h, aftL_pn h, rextN_pn h n]
theorem rext_pn {nd : List Int} {C LS : List (List Int)} (h : pl'.map PV.pn = pl.map PV.pn) : rext nd pl' C LS = rext nd pl C LS := by
  funext wt S
  unfold rext
  rw [rextN_pn h]
theorem po_pn {nd : List Int} {L L' : List SV} (h : pl'.map PV.pn = pl.map PV.pn) (hL : L'.map (·.xs) = L.map (·.xs)) : po nd pl' L' = po nd pl L := by unfold po; rw [h, hL]
theorem best_pn {nd : List Int} {L L' : List SV} (h : pl'.map PV.pn = pl.map PV.pn) (hL : L'.map (·.xs) = L.map (·.xs)) : bestR nd pl' L' = bestR nd pl L := by
  unfold bestR
  rw [po_pn h hL, hL, rfe_pn h, rext_pn h, pn_len h]
end
theorem xs_at {R : List SV} {k : Nat} : (R.map (·.xs)).getD k [] = (R.getD k sv0).xs := by
  rw [List.getD_eq_getElem?_getD, List.getD_eq_getElem?_getD, List.getElem?_map]; cases R[k]? <;> rfl
/-- where a rota fails in a case -/
def failX (nd : List Int) (T C : List (List Int)) (c : Nat) : Int := idxI (fun k => decide (awkN (decide (C.length ≤ c)) (C.getD c []) (k : Int) (T.getD k []) < nd.getD k 0)) T.length
theorem idx_neg {p : Nat → Bool} {n : Nat} : idxI p n < 0 ↔ ∀ k, k < n → p k = false := by
  have h := idxI_nonneg p n
  constructor
  · intro h1 k hk
    rw [decide_eq_false (by omega)] at h
    have := List.any_eq_false.1 h.symm k (List.mem_range.2 hk)
    simpa using this
  · intro h1
    rw [idxI_none h1]; decide
theorem gdL {C : List (List Int)} {c : Nat} (h : c < C.length) : C.getD c [] = C[c] := by rw [List.getD_eq_getElem?_getD, List.getElem?_eq_getElem h]; rfl
theorem fails_neg {nd : List Int} {T C : List (List Int)} : (∀ c, c ≤ C.length → failX nd T C c < 0) ↔ ∀ k, k < T.length → holdsP C (nd.getD k 0) k (T.getD k []) = true := by
  have key : ∀ (c k : Nat), (decide (awkN (decide (C.length ≤ c)) (C.getD c []) (k : Int) (T.getD k []) < nd.getD k 0)) = false ↔ nd.getD k 0 ≤ awkN (decide (C.length ≤ c)) (C.getD c []) (k : Int) (T.getD k []) := fun c k => by
    rw [decide_eq_false_iff_not]; omega
  constructor
  · intro h k hk
    unfold holdsP
    rw [Bool.and_eq_true, List.all_eq_true, decide_eq_true_eq]
    refine ⟨fun l hl => ?_, ?_⟩
    · obtain ⟨c, hc, rfl⟩ := List.mem_iff_getElem.1 hl
      have h1 := (key c k).1 (idx_neg.1 (h c (by omega)) k hk)
      rw [decide_eq_false (by omega), gdL hc] at h1
      exact decide_eq_true h1
    · have h1 := (key C.length k).1 (idx_neg.1 (h C.length (Nat.le_refl _)) k hk)
      rw [decide_eq_true (Nat.le_refl _), awk_nil] at h1
      exact h1
  · intro h c hc
    refine idx_neg.2 fun k hk => (key c k).2 ?_
    have h1 := h k hk
    unfold holdsP at h1
    rw [Bool.and_eq_true, List.all_eq_true, decide_eq_true_eq] at h1
    by_cases hc2 : c < C.length
    · rw [decide_eq_false (by omega), gdL hc2]
      exact of_decide_eq_true (h1.1 _ (List.getElem_mem hc2))
    · rw [decide_eq_true (by omega), awk_nil]
      exact h1.2
/-- safe, as the document says it -/
def safeX (nd : List Int) (pl : List PV) (C T : List (List Int)) : Bool := (List.range (C.length + 1)).all (fun c => decide (failX nd T C c < 0)) && rulesX pl T
theorem safe_eq {nd : List Int} {pl : List PV} {C T : List (List Int)} (hp4 : pl.length ≤ 4) (hm : ∀ x ∈ pl, 0 ≤ x.m) (hT : ∀ on ∈ T, risB on (pl.length : Int) = true) : safeX nd pl C T = chn nd pl C 0 stood0 T := by
  unfold safeX
  rw [chn_eq, ← rul_eq hp4 hm hT, Bool.and_comm]
  congr 1
  rw [Bool.eq_iff_iff, List.all_eq_true, List.all_eq_true]
  simp only [List.mem_range, decide_eq_true_eq, Nat.zero_add]
  rw [← fails_neg]
  exact ⟨fun h c hc => h c (by omega), fun h c hc => h c (by omega)⟩



end Go.Proofs.YtbikicakdkbcgabGreat
