/- Contracts. -/
import Derived.Test.YtgdanglidienmaaR14
import Derived.Test.YtgdanglidienmaaRP
set_option linter.unusedVariables false
set_option linter.unusedSimpArgs false
namespace Go.Proofs.Ytgdanglidienmaa
open Go Go.RowKit Go.Gv Go.Fl

/- ---- mirrors ---- -/
def nowT (xs T : List Int) : Nat → Int
  | 0 => 100
  | k + 1 => max 0 ((if hasI xs (k : Int) = true then 100 else nowT xs T k) - T.getD k 0)
def dimsT (xs T : List Int) (n : Nat) : List Int := (List.range n).map (fun k => nowT xs T (k + 1))
theorem dimsT_len {xs T : List Int} {n : Nat} : (dimsT xs T n).length = n := by unfold dimsT; simp
theorem dimsT_at {xs T : List Int} {n k : Nat} (h : k < n) : (dimsT xs T n).getD k 0 = nowT xs T (k + 1) := by
  unfold dimsT
  rw [List.getD_eq_getElem?_getD, List.getElem?_map, List.getElem?_range h]; rfl
theorem dimsT_step {xs T : List Int} {n : Nat} : dimsT xs T n ++ [nowT xs T (n + 1)] = dimsT xs T (n + 1) := by unfold dimsT; rw [List.range_succ, List.map_append]; rfl
theorem any_has {xs : List Int} {n : Int} : xs.any (fun x => decide (n = x)) = hasI xs n := by
  unfold hasI
  rw [Bool.eq_iff_iff, List.any_eq_true, List.any_eq_true]
  simp only [decide_eq_true_eq]
  exact ⟨fun ⟨x, h, e⟩ => ⟨x, h, e.symm⟩, fun ⟨x, h, e⟩ => ⟨x, h, e.symm⟩⟩
theorem rg_map {pk : RG → Int} {G : List RG} {k : Nat} (h : k < G.length) : (G.map pk).getD k 0 = pk (G.getD k rg0) := by
  rw [List.getD_eq_getElem?_getD, List.getElem?_map, List.getD_eq_getElem?_getD, List.getElem?_eq_getElem h]; rfl
theorem now_eq {pk : RG → Int} {xs : List Int} {G : List RG} : ∀ {k : Nat}, k ≤ G.length → nowM pk xs G k = nowT xs (G.map pk) k
  | 0, _ => rfl
  | k + 1, h => by rw [nowM, nowT, any_has, now_eq (k := k) (by omega), rg_map (by omega)]
theorem dims_eq {pk : RG → Int} {xs : List Int} {G : List RG} : dimsM pk xs G = dimsT xs (G.map pk) G.length := by
  unfold dimsM dimsT
  refine List.map_congr_left fun k hk => now_eq (by have := List.mem_range.1 hk; omega)
theorem nowT_bnd {xs T : List Int} (hT : ∀ k, 0 ≤ T.getD k 0) : ∀ k, 0 ≤ nowT xs T k ∧ nowT xs T k ≤ 100
  | 0 => by show (0 : Int) ≤ 100 ∧ (100 : Int) ≤ 100; decide
  | k + 1 => by
    have h1 := nowT_bnd (xs := xs) hT k
    have h2 := hT k
    rw [nowT]
    split <;> omega
/-- polished more often, and with less loss, it is no darker -/
theorem nowT_mono {xs ys T U : List Int} (hxy : ∀ i ∈ xs, i ∈ ys) (hU : ∀ k, 0 ≤ U.getD k 0) : ∀ k, (∀ j, j < k → U.getD j 0 ≤ T.getD j 0) → nowT xs T k ≤ nowT ys U k
  | 0, _ => Int.le_refl _
  | k + 1, h => by
    have ih := nowT_mono hxy hU k (fun j hj => h j (by omega))
    have h1 := h k (by omega)
    have h2 := hU k
    have hT : 0 ≤ T.getD k 0 := by omega
    have hb : nowT xs T k ≤ 100 := by
      cases k with
      | zero => show (100 : Int) ≤ 100; decide
      | succ k =>
        have : ∀ m, m ≤ k + 1 → nowT xs T m ≤ 100 := by
          intro m
          induction m with
          | zero => intro _; show (100 : Int) ≤ 100; decide
          | succ m ih =>
            intro hm
            have h3 := ih (by omega)
            have h4 := h m (by omega)
            have h5 := hU m
            rw [nowT]
            split <;> omega
        exact this _ (Nat.le_refl _)
    rw [nowT, nowT]
    by_cases hx : hasI xs (k : Int) = true
    · rw [if_pos hx, if_pos (has_iff.2 (hxy _ (has_iff.1 hx)))]; omega
    · rw [if_neg hx]
      split <;> omega
def staysB (fl : Int) (G : List RG) (xs : List Int) : Bool := (dimsM (fun x => x.hi) xs G).all (fun x => decide (fl ≤ x))
theorem fold_min {fl : Int} : ∀ {l : List Int} {x : Int}, fl ≤ l.foldl min x ↔ fl ≤ x ∧ ∀ y ∈ l, fl ≤ y
  | [], x => by simp
  | y :: l, x => by
    rw [List.foldl_cons, fold_min]
    constructor
    · rintro ⟨h1, h2⟩
      refine ⟨by omega, fun z hz => ?_⟩
      rcases List.mem_cons.1 hz with rfl | hz
      · omega
      · exact h2 z hz
    · rintro ⟨h1, h2⟩
      have := h2 y (by simp)
      exact ⟨by omega, fun z hz => h2 z (by simp [hz])⟩
theorem stays_eq {fl : Int} {G : List RG} {xs : List Int} (h : 0 < G.length) : tryB fl G xs = staysB fl G xs := by
  unfold tryB staysB
  rw [Bool.eq_iff_iff, decide_eq_true_eq, List.all_eq_true]
  unfold minOf
  rw [fold_min]
  simp only [decide_eq_true_eq]
  refine ⟨fun h => h.2, fun h2 => ⟨h2 _ (getD_lt (by rw [dimsM_len]; exact h)), h2⟩⟩
theorem stays_iff {fl : Int} {G : List RG} {xs : List Int} : staysB fl G xs = true ↔ ∀ k, k < G.length → fl ≤ nowT xs (G.map (fun x => x.hi)) (k + 1) := by
  unfold staysB
  rw [List.all_eq_true, dims_eq]
  unfold dimsT
  simp only [decide_eq_true_eq, List.mem_map, List.mem_range]
  exact ⟨fun h k hk => h _ ⟨k, hk, rfl⟩, fun h x ⟨k, hk, e⟩ => by rw [← e]; exact h k hk⟩
theorem map_nn {pk : RG → Int} {G : List RG} (h : ∀ x ∈ G, 0 ≤ pk x) (k : Nat) : 0 ≤ (G.map pk).getD k 0 := by
  by_cases hk : k < G.length
  · rw [rg_map hk]; exact h _ (getD_lt hk)
  · rw [List.getD_eq_getElem?_getD, List.getElem?_eq_none (by rw [List.length_map]; omega)]; decide
theorem stays_mono {fl fl' : Int} {G : List RG} {xs ys : List Int} (hok : ∀ x ∈ G, okRG x = true) (hf : fl' ≤ fl) (hxy : ∀ i ∈ xs, i ∈ ys) (h : staysB fl G xs = true) : staysB fl' G ys = true := by
  rw [stays_iff] at h ⊢
  intro k hk
  have h1 := h k hk
  have h2 := nowT_mono (T := G.map (fun x => x.hi)) (U := G.map (fun x => x.hi)) hxy (map_nn (fun x hx => (okRG_hi (hok x hx)).1)) (k + 1) (fun j _ => Int.le_refl _)
  omega
/- ---- the best polishing ---- -/
theorem scan_some {f : Nat → Option (List Int)} : ∀ {n i : Nat} {r : List Int}, scanP f n i = some r → ∃ j, i ≤ j ∧ j < i + n ∧ f j = some r ∧ ∀ j', i ≤ j' → j' < j → f j' = none
  | 0, _, _, h => by cases h
  | n + 1, i, r, h => by
    rw [scanP] at h
    cases hf : f i with
    | some l => rw [hf] at h; cases h; exact ⟨i, Nat.le_refl _, by omega, hf, fun j' h1 h2 => by omega⟩
    | none =>
      rw [hf] at h
      obtain ⟨j, h1, h2, h3, h4⟩ := scan_some h
      refine ⟨j, by omega, by omega, h3, fun j' h5 h6 => ?_⟩
      rcases Nat.eq_or_lt_of_le h5 with rfl | h7
      · exact hf
      · exact h4 j' h7 h6
theorem scan_none {f : Nat → Option (List Int)} : ∀ {n i : Nat}, scanP f n i = none → ∀ j, i ≤ j → j < i + n → f j = none
  | 0, _, _, j, h1, h2 => by omega
  | n + 1, i, h, j, h1, h2 => by
    rw [scanP] at h
    cases hf : f i with
    | some l => rw [hf] at h; cases h
    | none =>
      rw [hf] at h
      rcases Nat.eq_or_lt_of_le h1 with rfl | h3
      · exact hf
      · exact scan_none h j h3 (by omega)
/-- an increasing list of m numbers from fr on, below n -/
def Inc (n m fr : Nat) (l : List Int) : Prop := l.length = m ∧ l.Pairwise (· < ·) ∧ ∀ x ∈ l, (fr : Int) ≤ x ∧ x ≤ (n : Int) - 1
theorem inc_cons {n m fr : Nat} {x : Int} {l : List Int} (h : Inc n (m + 1) fr (x :: l)) : ∃ j : Nat, x = (j : Int) ∧ fr ≤ j ∧ j < n ∧ Inc n m (j + 1) l := by
  obtain ⟨h1, h2, h3⟩ := h
  rw [List.pairwise_cons] at h2
  have h4 := h3 x (by simp)
  refine ⟨x.toNat, by omega, by omega, by omega, by simpa using h1, h2.2, fun y hy => ?_⟩
  have := h2.1 y hy
  have := h3 y (by simp [hy])
  omega
theorem pol_none {fl : Int} {G : List RG} : ∀ {m fr : Nat} {xs : List Int}, polF fl G m fr xs = none → ∀ l, Inc G.length m fr l → tryB fl G (xs ++ l) = false
  | 0, fr, xs, h, l, hl => by
    rw [List.length_eq_zero_iff.1 hl.1, List.append_nil, ← Bool.not_eq_true]
    intro ht
    rw [pol_yes ht] at h; cases h
  | m + 1, fr, xs, h, l, hl => by
    cases l with
    | nil => cases hl.1
    | cons x l =>
      obtain ⟨j, rfl, h1, h2, h3⟩ := inc_cons hl
      have h4 := scan_none (show scanP (fun i => polF fl G m (i + 1) (xs ++ [(i : Int)])) (G.length - fr) fr = none from h) j h1 (by omega)
      have := pol_none h4 l h3
      rwa [List.append_assoc] at this
theorem pol_some {fl : Int} {G : List RG} : ∀ {m fr : Nat} {xs r : List Int}, polF fl G m fr xs = some r → ∃ l, r = xs ++ l ∧ Inc G.length m fr l ∧ tryB fl G r = true ∧ ∀ l', Inc G.length m fr l' → tryB fl G (xs ++ l') = true → ¬ cmpV l' l < 0
  | 0, fr, xs, r, h => by
    by_cases ht : tryB fl G xs = true
    · rw [pol_yes ht] at h
      cases h
      refine ⟨[], by simp, ⟨rfl, List.Pairwise.nil, fun x hx => by simp at hx⟩, ht, fun l' hl' _ => ?_⟩
      rw [List.length_eq_zero_iff.1 hl'.1]; simp [cmpV, cmpz]
    · rw [pol_no (by simpa using ht)] at h; cases h
  | m + 1, fr, xs, r, h => by
    obtain ⟨j, h1, h2, h3, h4⟩ := scan_some (show scanP (fun i => polF fl G m (i + 1) (xs ++ [(i : Int)])) (G.length - fr) fr = some r from h)
    obtain ⟨l, rfl, h5, h6, h7⟩ := pol_some h3
    refine ⟨(j : Int) :: l, by simp, ⟨by rw [List.length_cons, h5.1], List.pairwise_cons.2 ⟨fun y hy => by have := h5.2.2 y hy; omega, h5.2.1⟩, fun y hy => ?_⟩, h6, fun l' hl' ht => ?_⟩
    · rcases List.mem_cons.1 hy with rfl | hy
      · omega
      · have := h5.2.2 y hy; omega
    · cases l' with
      | nil => cases hl'.1
      | cons x l' =>
        obtain ⟨j', rfl, h8, h9, h10⟩ := inc_cons hl'
        rw [cmpV_cons]
        rintro (h11 | ⟨h11, h12⟩)
        · have h13 := pol_none (h4 j' h8 (by omega)) l' h10
          rw [List.append_assoc] at h13
          rw [show xs ++ (j' : Int) :: l' = xs ++ ([(j' : Int)] ++ l') from rfl, h13] at ht; cases ht
        · obtain rfl : j' = j := by omega
          exact h7 l' h10 (by rw [List.append_assoc]; exact ht) h12
theorem inc_ris {n : Nat} {l : List Int} : risB l (n : Int) = true ↔ Inc n l.length 0 l := by
  rw [ris_iff]
  constructor
  · exact fun h => ⟨rfl, h.1, fun x hx => by have := h.2 x hx; omega⟩
  · exact fun h => ⟨h.2.1, fun x hx => by have := h.2.2 x hx; omega⟩
theorem polish_spec {fl : Int} {G : List RG} (hok : mfault fl G = 0) : (polishM fl G = (10, []) ∧ ∀ l, risB l (G.length : Int) = true → staysB fl G l = false) ∨
    ∃ l, polishM fl G = (0, l) ∧ risB l (G.length : Int) = true ∧ staysB fl G l = true ∧ ∀ l', risB l' (G.length : Int) = true → staysB fl G l' = true → ltL l' l = false := by
  obtain ⟨hf, ⟨hg0, hg8⟩, hrg⟩ := mf_ok hok
  by_cases ht : tryB fl G (upTo G.length) = true
  · right
    cases hs : scanP (fun m => polF fl G m 0 []) (G.length + 1) 0 with
    | none =>
      have h1 := pol_none (scan_none hs G.length (Nat.zero_le _) (by omega)) (upTo G.length) (by have := inc_ris.1 (upTo_ris G.length); rwa [upTo_len] at this)
      rw [List.nil_append, ht] at h1; cases h1
    | some r =>
      obtain ⟨j, _, h2, h3, h4⟩ := scan_some hs
      obtain ⟨l, h5, h6, h7, h8⟩ := pol_some h3
      rw [List.nil_append] at h5
      subst h5
      refine ⟨r, pm_1 hok ht hs, inc_ris.2 (by rw [h6.1]; exact h6), by rw [← stays_eq hg0]; exact h7, fun l' hl' hs' => ?_⟩
      rw [← stays_eq hg0] at hs'
      have hi := inc_ris.1 hl'
      rw [← Bool.not_eq_true, ltL_iff]
      rintro (h9 | ⟨h9, h10⟩)
      · have h11 := pol_none (h4 l'.length (Nat.zero_le _) (by rw [h6.1] at h9; exact h9)) l' hi
        rw [List.nil_append, hs'] at h11; cases h11
      · rw [h9, h6.1] at hi
        exact h8 l' hi (by rw [List.nil_append]; exact hs') h10
  · left
    have ht' : tryB fl G (upTo G.length) = false := by simpa using ht
    refine ⟨pm_2 hok ht', fun l hl => ?_⟩
    rw [← Bool.not_eq_true]
    intro h
    have h1 := stays_mono (ys := upTo G.length) hrg (Int.le_refl fl) (fun i hi => upTo_mem.2 ((ris_iff.1 hl).2 i hi)) h
    rw [← stays_eq hg0, ht'] at h1; cases h1
theorem rgL_at {xs : List Int} {G : List RG} {k n : Nat} (h : k < n) : (rgL xs G n).getD k rg0 = ⟨(dimsM (fun x => x.hi) xs G).getD k 0, (dimsM (fun x => x.lo) xs G).getD k 0⟩ := by
  unfold rgL
  rw [List.getD_eq_getElem?_getD, List.getElem?_map, List.getElem?_range h]; rfl
/- ---- numbers as lists of bits ---- -/
def bitsK (n k : Nat) : List Int := ((List.range k).filter (bitB n)).map (fun (j : Nat) => (j : Int))
def bitsL (n : Nat) : List Int := bitsK n 20
theorem bitsK_yes {n k : Nat} (h : bitB n k = true) : bitsK n k ++ [(k : Int)] = bitsK n (k + 1) := by
  unfold bitsK
  rw [List.range_succ, List.filter_append, List.filter_cons_of_pos h, List.filter_nil, List.map_append]; rfl
theorem bitsK_no {n k : Nat} (h : bitB n k = false) : bitsK n k = bitsK n (k + 1) := by
  unfold bitsK
  rw [List.range_succ, List.filter_append, List.filter_cons_of_neg (by rw [h]; decide), List.filter_nil, List.append_nil]
theorem bits_k {n k : Nat} (h : n < 2 ^ k) : ∀ {d : Nat}, bitsK n (k + d) = bitsK n k
  | 0 => rfl
  | d + 1 => by
    rw [← Nat.add_assoc, ← bitsK_no (bit_low (Nat.lt_of_lt_of_le h (Nat.pow_le_pow_right (by decide) (by omega)))), bits_k h]
theorem bits_eq {n k : Nat} (h : n < 2 ^ k) (hk : k ≤ 20) : bitsL n = bitsK n k := by
  obtain ⟨d, hd⟩ : ∃ d, 20 = k + d := ⟨20 - k, by omega⟩
  unfold bitsL
  rw [hd, bits_k h]
theorem bitsK_sub {m n k : Nat} (h : k ≤ n) : bitsK m k = subK (upTo n) m k := by
  unfold bitsK subK
  refine List.map_congr_left fun j hj => ?_
  have := List.mem_range.1 (List.mem_filter.1 hj).1
  unfold upTo
  rw [List.getD_eq_getElem?_getD, List.getElem?_map, List.getElem?_range (by omega)]; rfl
theorem bits_ris {m n : Nat} (h : m < 2 ^ n) (hn : n ≤ 20) : risB (bitsL m) (n : Int) = true := by
  rw [ris_sub, bits_eq h hn, bitsK_sub (Nat.le_refl n), lists_iff]
  have := sub_sub (xs := upTo n) (m := m) (k := n) (by rw [upTo_len]; exact Nat.le_refl _)
  rwa [List.take_of_length_le (by rw [upTo_len]; exact Nat.le_refl _)] at this
theorem bits_surj {n : Nat} {l : List Int} (hn : n ≤ 20) (h : risB l (n : Int) = true) : ∃ m, m < 2 ^ n ∧ bitsL m = l := by
  rw [ris_sub, lists_iff] at h
  obtain ⟨m, hm, he⟩ := sub_top (xs := upTo n) (l := l) (k := n) (by rw [upTo_len]; exact Nat.le_refl _) (by rw [List.take_of_length_le (by rw [upTo_len]; exact Nat.le_refl _)]; exact h)
  exact ⟨m, hm, by rw [bits_eq hm hn, bitsK_sub (Nat.le_refl n), he]⟩
theorem bits_mem {m : Nat} {i : Int} (h : m < 2 ^ 20) : i ∈ bitsL m ↔ ∃ j : Nat, i = (j : Int) ∧ bitB m j = true := by
  unfold bitsL bitsK
  simp only [List.mem_map, List.mem_filter, List.mem_range]
  constructor
  · rintro ⟨j, ⟨_, h2⟩, rfl⟩; exact ⟨j, rfl, h2⟩
  · rintro ⟨j, rfl, h2⟩
    refine ⟨j, ⟨?_, h2⟩, rfl⟩
    rcases Nat.lt_or_ge j 20 with h3 | h3
    · exact h3
    · rw [bit_low (Nat.lt_of_lt_of_le h (Nat.pow_le_pow_right (by decide) h3))] at h2; cases h2
theorem bits_all {n : Nat} (hn : n ≤ 20) : bitsL (2 ^ n - 1) = upTo n := by
  have hlt : 2 ^ n - 1 < 2 ^ n := by have := Nat.two_pow_pos n; omega
  rw [bits_eq hlt hn]
  unfold bitsK upTo
  rw [List.filter_eq_self.2]
  intro j hj
  have hj := List.mem_range.1 hj
  unfold bitB
  rw [decide_eq_true_eq]
  obtain ⟨d, rfl⟩ : ∃ d, n = j + 1 + d := ⟨n - j - 1, by omega⟩
  have hp : 2 ^ (j + 1 + d) = 2 ^ j * (2 * 2 ^ d) := by rw [Nat.pow_add, Nat.pow_succ, Nat.mul_assoc]
  have hd := Nat.two_pow_pos d
  have hj2 := Nat.two_pow_pos j
  have h1 : 2 ^ (j + 1 + d) - 1 = (2 ^ j - 1) + 2 ^ j * (2 * (2 ^ d - 1) + 1) := by
    rw [hp, Nat.mul_add, Nat.mul_one]
    have : 2 ^ j * (2 * 2 ^ d) = 2 ^ j * (2 * (2 ^ d - 1)) + 2 ^ j * 2 := by
      rw [← Nat.mul_add]; congr 1; omega
    omega
  rw [h1, Nat.add_mul_div_left _ _ hj2, Nat.div_eq_of_lt (by omega)]
  omega



end Go.Proofs.Ytgdanglidienmaa
