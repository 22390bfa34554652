/- Contracts. -/
import Derived.Test.YtekkdhpgcilpdaaGreatSrt
import Derived.Test.YtekkdhpgcilpdaaGreatF12
import Derived.Test.YtekkdhpgcilpdaaGreatE1
set_option linter.unusedVariables false
set_option linter.unusedSimpArgs false
namespace Go.Proofs.YtekkdhpgcilpdaaGreat
open Go Go.RowKit Go.Gv Go.Fl

def lastAt (xs : List Int) : Nat → Int
  | 0 => -1
  | k + 1 => xs.getD k 0
def rAt (xs : List Int) (be : Int) (k : Nat) : Bool := decide (lastAt xs k + 1 ≤ xs.getD k 0) && decide (xs.getD k 0 ≤ be - 1)
def risB (xs : List Int) (be : Int) : Bool := (List.range xs.length).all (rAt xs be)

theorem ris_get {xs : List Int} {be : Int} (h : risB xs be = true) : ∀ k, k < xs.length → (k : Int) ≤ xs.getD k 0 ∧ xs.getD k 0 ≤ be - 1 := by
  have hk : ∀ k, k < xs.length → lastAt xs k + 1 ≤ xs.getD k 0 ∧ xs.getD k 0 ≤ be - 1 := fun k hk => by
    have := List.all_eq_true.1 h k (List.mem_range.2 hk)
    simpa [rAt] using this
  intro k
  induction k with
  | zero => intro h0; have := hk 0 h0; simp only [lastAt] at this; omega
  | succ k ih =>
    intro h1
    have h2 := ih (by omega)
    have h3 := hk (k + 1) h1
    simp only [lastAt] at h3
    omega

def upTo (n : Nat) : List Int := (List.range n).map (fun (i : Nat) => (i : Int))
theorem upTo_len (n : Nat) : (upTo n).length = n := by unfold upTo; simp
theorem upTo_on {n : Nat} : ∀ i ∈ upTo n, 0 ≤ i ∧ i ≤ (n : Int) - 1 := fun i hi => by
  unfold upTo at hi
  obtain ⟨j, hj, rfl⟩ := List.mem_map.1 hi
  have := List.mem_range.1 hj
  omega

def scanP (f : Nat → Option (List Int)) : Nat → Nat → Option (List Int)
  | 0, _ => none
  | n + 1, i => match f i with
    | some l => some l
    | none => scanP f n (i + 1)
theorem scan_at {f : Nat → Option (List Int)} {n i : Nat} {l : List Int} (h : i < n) (hf : f i = some l) : scanP f (n - i) i = some l := by
  obtain ⟨m, hm⟩ : ∃ m, n - i = m + 1 := ⟨n - i - 1, by omega⟩
  rw [hm, scanP, hf]
theorem scan_skip {f : Nat → Option (List Int)} {n i : Nat} (h : i < n) (hf : f i = none) : scanP f (n - i) i = scanP f (n - (i + 1)) (i + 1) := by
  obtain ⟨m, hm⟩ : ∃ m, n - i = m + 1 := ⟨n - i - 1, by omega⟩
  rw [hm, scanP, hf, show n - (i + 1) = m by omega]
theorem scan_end {f : Nat → Option (List Int)} {n i : Nat} (h : n ≤ i) : scanP f (n - i) i = none := by rw [Nat.sub_eq_zero_of_le h]; rfl

def hasI (xs : List Int) (n : Int) : Bool := xs.any (fun x => decide (x = n))

theorem ris_iff {xs : List Int} {be : Int} : risB xs be = true ↔ xs.Pairwise (· < ·) ∧ ∀ x ∈ xs, 0 ≤ x ∧ x ≤ be - 1 := by
  have gd : ∀ {l : List Int} {i : Nat} (h : i < l.length), l.getD i 0 = l[i] := fun {l i} h => by rw [List.getD_eq_getElem?_getD, List.getElem?_eq_getElem h]; rfl
  constructor
  · intro h
    have hk : ∀ k, k < xs.length → lastAt xs k + 1 ≤ xs.getD k 0 ∧ xs.getD k 0 ≤ be - 1 := fun k hk => by
      have := List.all_eq_true.1 h k (List.mem_range.2 hk)
      simpa [rAt] using this
    refine ⟨?_, fun x hx => ?_⟩
    · rw [List.pairwise_iff_getElem]
      have key : ∀ j i, i < j → j < xs.length → xs.getD i 0 < xs.getD j 0 := by
        intro j
        induction j with
        | zero => intro i hi; omega
        | succ j ih =>
          intro i hi hj
          have h1 := (hk (j + 1) hj).1
          simp only [lastAt] at h1
          rcases Nat.lt_succ_iff_lt_or_eq.1 hi with h2 | rfl
          · have := ih i h2 (by omega); omega
          · omega
      intro i j hi hj hij
      have := key j i hij hj
      rwa [gd hi, gd hj] at this
    · obtain ⟨k, hk2, rfl⟩ := List.mem_iff_getElem.1 hx
      have := ris_get h k hk2
      rw [gd hk2] at this
      omega
  · rintro ⟨h1, h2⟩
    refine List.all_eq_true.2 fun k hk => ?_
    have hk := List.mem_range.1 hk
    have h3 := h2 _ (getD_lt (d := 0) hk)
    unfold rAt
    simp only [Bool.and_eq_true, decide_eq_true_eq]
    refine ⟨?_, h3.2⟩
    cases k with
    | zero => simp only [lastAt]; omega
    | succ k =>
      have := List.pairwise_iff_getElem.1 h1 k (k + 1) (by omega) hk (by omega)
      simp only [lastAt]
      rw [gd hk, gd (show k < xs.length by omega)]
      omega
theorem upTo_mem {n : Nat} {i : Int} : i ∈ upTo n ↔ 0 ≤ i ∧ i ≤ (n : Int) - 1 := by
  refine ⟨upTo_on i, fun h => ?_⟩
  unfold upTo
  exact List.mem_map.2 ⟨i.toNat, List.mem_range.2 (by omega), by omega⟩
theorem upTo_lt (n : Nat) : (upTo n).Pairwise (· < ·) := by
  unfold upTo
  rw [List.pairwise_map]
  exact List.pairwise_lt_range.imp (fun h => by omega)
theorem upTo_ris (n : Nat) : risB (upTo n) (n : Int) = true := ris_iff.2 ⟨upTo_lt n, fun _ h => upTo_mem.1 h⟩
theorem has_iff {l : List Int} {n : Int} : hasI l n = true ↔ n ∈ l := by
  unfold hasI
  rw [List.any_eq_true]
  constructor
  · rintro ⟨x, hx, h⟩; rw [of_decide_eq_true h] at hx; exact hx
  · exact fun h => ⟨n, h, decide_eq_true rfl⟩

theorem scan_some {f : Nat → Option (List Int)} : ∀ {n i : Nat} {r : List Int}, scanP f n i = some r → ∃ j, i ≤ j ∧ j < i + n ∧ f j = some r ∧ ∀ j', i ≤ j' → j' < j → f j' = none
  | 0, _, _, h => by cases h
  | n + 1, i, r, h => by
    rw [scanP] at h
    cases hf : f i with
    | some l => rw [hf] at h; cases h; exact ⟨i, Nat.le_refl _, by omega, hf, fun j' h1 h2 => by omega⟩
    | none =>
      rw [hf] at h
      obtain ⟨j, h1, h2, h3, h4⟩ := scan_some h
      refine ⟨j, by omega, by omega, h3, fun j' h5 h6 => ?_⟩
      rcases Nat.eq_or_lt_of_le h5 with rfl | h7
      · exact hf
      · exact h4 j' h7 h6
theorem scan_none {f : Nat → Option (List Int)} : ∀ {n i : Nat}, scanP f n i = none → ∀ j, i ≤ j → j < i + n → f j = none
  | 0, _, _, j, h1, h2 => by omega
  | n + 1, i, h, j, h1, h2 => by
    rw [scanP] at h
    cases hf : f i with
    | some l => rw [hf] at h; cases h
    | none =>
      rw [hf] at h
      rcases Nat.eq_or_lt_of_le h1 with rfl | h3
      · exact hf
      · exact scan_none h j h3 (by omega)
def Inc (n m fr : Nat) (l : List Int) : Prop := l.length = m ∧ l.Pairwise (· < ·) ∧ ∀ x ∈ l, (fr : Int) ≤ x ∧ x ≤ (n : Int) - 1
theorem inc_cons {n m fr : Nat} {x : Int} {l : List Int} (h : Inc n (m + 1) fr (x :: l)) : ∃ j : Nat, x = (j : Int) ∧ fr ≤ j ∧ j < n ∧ Inc n m (j + 1) l := by
  obtain ⟨h1, h2, h3⟩ := h
  rw [List.pairwise_cons] at h2
  have h4 := h3 x (by simp)
  refine ⟨x.toNat, by omega, by omega, by omega, by simpa using h1, h2.2, fun y hy => ?_⟩
  have := h2.1 y hy
  have := h3 y (by simp [hy])
  omega
theorem inc_ris {n : Nat} {l : List Int} : risB l (n : Int) = true ↔ Inc n l.length 0 l := by
  rw [ris_iff]
  constructor
  · exact fun h => ⟨rfl, h.1, fun x hx => by have := h.2 x hx; omega⟩
  · exact fun h => ⟨h.2.1, fun x hx => by have := h.2.2 x hx; omega⟩
theorem isText_iff {c : List Sg} {t : List Int} : isText c t = true ↔ ∀ x ∈ t, 0 ≤ x ∧ x < (c.length : Int) := by
  unfold isText
  rw [List.all_eq_true]
  constructor
  · intro h x hx
    have := h x hx
    rw [Bool.and_eq_true, decide_eq_true_eq, decide_eq_true_eq] at this
    omega
  · intro h x hx
    have := h x hx
    rw [Bool.and_eq_true, decide_eq_true_eq, decide_eq_true_eq]
    omega
theorem signs_append (c : List Sg) {t : List Int} (ht : t ≠ []) : ∀ u : List Int, signs c (t ++ u) = signs c t ++ (if u = [] then [] else [32] ++ signs c u) := by
  have key : ∀ v : List Int, signs c (t ++ v.reverse) = signs c t ++ (if v.reverse = [] then [] else [32] ++ signs c v.reverse) := by
    intro v
    induction v with
    | nil => simp
    | cons n v ih =>
      rw [List.reverse_cons, ← List.append_assoc, signs_snoc (by simp [ht]), ih, if_neg (show ¬ v.reverse ++ [n] = [] by simp)]
      by_cases hu : v.reverse = []
      · rw [hu, List.nil_append, signs_one]; simp
      · rw [if_neg hu, signs_snoc hu]; simp
  intro u
  have := key u.reverse
  rwa [List.reverse_reverse] at this

theorem fe_refl (s : Sg) : fe 1048576 s s ≤ 0 := fe_le (ex_refl s)
theorem isText_cons {c : List Sg} {n : Int} {t : List Int} (h : isText c (n :: t) = true) : (0 ≤ n ∧ n < (c.length : Int)) ∧ isText c t = true := by
  rw [isText_iff] at h
  exact ⟨h n (by simp), isText_iff.2 fun x hx => h x (by simp [hx])⟩
theorem signs_cons (c : List Sg) (n : Int) (t : List Int) : signs c (n :: t) = c.getD n.toNat [] ++ (if t = [] then [] else [32] ++ signs c t) := by
  have := signs_append c (t := [n]) (by simp) t
  rwa [signs_one] at this
theorem signs_signs {c : List Sg} (hc : fault c = 0) : ∀ {t : List Int}, isText c t = true → isSigns (signs c t) = true
  | [], _ => rfl
  | n :: t, h => by
    obtain ⟨h1, h2⟩ := isText_cons h
    rw [signs_cons, isSigns_append, Bool.and_eq_true]
    refine ⟨List.all_eq_true.2 fun z hz => ?_, ?_⟩
    · rcases letter_bytes ((fault_zero hc).2.2 n.toNat (by omega)).1 z hz with h | h <;> rw [h] <;> decide
    · split
      · rfl
      · rw [isSigns_append, signs_signs hc h2]; rfl

/- ---- assignments: lists of dispatches, each at most once, and of -1; -2 for what is left out ---- -/
def bys (m : Nat) : List Int := (List.range (m + 1)).map (fun (i : Nat) => (i : Int) - 1)
theorem mem_bys {m : Nat} {b : Int} : b ∈ bys m ↔ -1 ≤ b ∧ b ≤ (m : Int) - 1 := by
  unfold bys
  rw [List.mem_map]
  constructor
  · rintro ⟨i, hi, rfl⟩
    have := List.mem_range.1 hi
    omega
  · exact fun h => ⟨(b + 1).toNat, List.mem_range.2 (by omega), by omega⟩
theorem bys_len (m : Nat) : (bys m).length = m + 1 := by unfold bys; rw [List.length_map, List.length_range]
theorem bys_at {m i : Nat} (h : i < m + 1) : (bys m).getD i 0 = (i : Int) - 1 := by
  rw [List.getD_eq_getElem?_getD, List.getElem?_eq_getElem (by rw [bys_len]; exact h)]
  unfold bys
  simp
theorem bys_take {m i : Nat} (h : i < m + 1) : (bys m).take (i + 1) = (bys m).take i ++ [(i : Int) - 1] := by
  rw [← bys_at h, take_succ_getD (by rw [bys_len]; exact h)]
def freeP (p : List Int) (b : Int) : Bool := decide (b = -1) || !hasI p b
def stepB (can : Nat → Int → Bool) (p : List Int) (b : Int) : Bool := can p.length b && freeP p b
def noB : Nat → Bool := fun _ => false
/-- all assignments of k more records behind p, the lexicographically first one first -/
def allF (can : Nat → Int → Bool) (m : Nat) (out : Nat → Bool) : Nat → List Int → List (List Int)
  | 0, p => [p]
  | k + 1, p => if out p.length = true then allF can m out k (p ++ [-2]) else ((bys m).filter (stepB can p)).flatMap (fun b => allF can m out k (p ++ [b]))
def fals (a : List Int) : Int := ((a.filter (fun b => decide (b = -1))).length : Int)
def costB (b : Int) : Int := if b = -1 then 1 else 0
theorem costB_rng (b : Int) : 0 ≤ costB b ∧ costB b ≤ 1 := by unfold costB; split <;> omega
theorem fals_snoc {p : List Int} {b : Int} : fals (p ++ [b]) = fals p + costB b := by
  unfold fals costB
  rw [List.filter_append, List.length_append, List.filter_cons]
  split <;> simp_all
/-- how few false records k more need behind p; 1024 if there is no assignment -/
def fewF (can : Nat → Int → Bool) (m : Nat) (out : Nat → Bool) : Nat → List Int → Int
  | 0, _ => 0
  | k + 1, p => if out p.length = true then fewF can m out k (p ++ [-2]) else (bys m).foldl (fun x b => if stepB can p b = true then min x (fewF can m out k (p ++ [b]) + costB b) else x) 1024
theorem foldm_spec {f : Int → Int} {ok : Int → Bool} : ∀ {l : List Int} {x : Int}, l.foldl (fun x b => if ok b = true then min x (f b) else x) x ≤ x ∧ (∀ b ∈ l, ok b = true → l.foldl (fun x b => if ok b = true then min x (f b) else x) x ≤ f b) ∧
    (l.foldl (fun x b => if ok b = true then min x (f b) else x) x = x ∨ ∃ b ∈ l, ok b = true ∧ l.foldl (fun x b => if ok b = true then min x (f b) else x) x = f b)
  | [], x => ⟨Int.le_refl _, fun b h => by simp at h, .inl rfl⟩
  | c :: l, x => by
    rw [List.foldl_cons]
    obtain ⟨h1, h2, h3⟩ := foldm_spec (f := f) (ok := ok) (l := l) (x := if ok c = true then min x (f c) else x)
    by_cases hc : ok c = true
    · rw [if_pos hc] at h1 h2 h3 ⊢
      refine ⟨by omega, fun b hb hb2 => ?_, ?_⟩
      · rcases List.mem_cons.1 hb with rfl | hb
        · omega
        · exact h2 b hb hb2
      · rcases h3 with h3 | ⟨b, hb, hb2, h3⟩
        · rcases Int.le_total x (f c) with h4 | h4
          · left; rw [h3]; omega
          · right; exact ⟨c, by simp, hc, by rw [h3]; omega⟩
        · right; exact ⟨b, by simp [hb], hb2, h3⟩
    · rw [if_neg hc] at h1 h2 h3 ⊢
      refine ⟨h1, fun b hb hb2 => ?_, ?_⟩
      · rcases List.mem_cons.1 hb with rfl | hb
        · exact absurd hb2 hc
        · exact h2 b hb hb2
      · rcases h3 with h3 | ⟨b, hb, hb2, h3⟩
        · exact .inl h3
        · right; exact ⟨b, by simp [hb], hb2, h3⟩
section
variable {can : Nat → Int → Bool} {m : Nat} {out : Nat → Bool}
theorem all_succ {k : Nat} {p a : List Int} : a ∈ allF can m out (k + 1) p ↔ (out p.length = true ∧ a ∈ allF can m out k (p ++ [-2])) ∨ (out p.length = false ∧ ∃ b ∈ bys m, stepB can p b = true ∧ a ∈ allF can m out k (p ++ [b])) := by
  rw [allF]
  cases h : out p.length with
  | true => simp
  | false =>
    simp only [Bool.false_eq_true, if_false, List.mem_flatMap, List.mem_filter, false_and, true_and, false_or, and_assoc]
theorem few_spec : ∀ {k : Nat} {p : List Int}, k ≤ 1000 → (∀ a ∈ allF can m out k p, fals p + fewF can m out k p ≤ fals a) ∧
    (fewF can m out k p = 1024 ∧ allF can m out k p = [] ∨ 0 ≤ fewF can m out k p ∧ fewF can m out k p ≤ k ∧ ∃ a ∈ allF can m out k p, fals a = fals p + fewF can m out k p)
  | 0, p, _ => by
    rw [fewF, allF]
    refine ⟨fun a ha => ?_, .inr ⟨Int.le_refl _, Int.le_refl _, p, by simp, by omega⟩⟩
    obtain rfl : a = p := by simpa using ha
    omega
  | k + 1, p, hk => by
    cases ho : out p.length with
    | true =>
      obtain ⟨h1, h2⟩ := few_spec (k := k) (p := p ++ [-2]) (by omega)
      have hf : fals (p ++ [-2]) = fals p := by rw [fals_snoc]; unfold costB; rw [if_neg (by decide)]; omega
      rw [hf] at h1 h2
      have e1 : fewF can m out (k + 1) p = fewF can m out k (p ++ [-2]) := by rw [fewF, if_pos ho]
      have e2 : allF can m out (k + 1) p = allF can m out k (p ++ [-2]) := by rw [allF, if_pos ho]
      rw [e1, e2]
      refine ⟨h1, ?_⟩
      rcases h2 with h2 | ⟨h2, h3, h4⟩
      · exact .inl h2
      · exact .inr ⟨h2, by omega, h4⟩
    | false =>
      have e1 : fewF can m out (k + 1) p = (bys m).foldl (fun x b => if stepB can p b = true then min x (fewF can m out k (p ++ [b]) + costB b) else x) 1024 := by rw [fewF, if_neg (by rw [ho]; decide)]
      obtain ⟨h1, h2, h3⟩ := foldm_spec (f := fun b => fewF can m out k (p ++ [b]) + costB b) (ok := stepB can p) (l := bys m) (x := 1024)
      rw [← e1] at h1 h2 h3
      have ih := fun b => few_spec (k := k) (p := p ++ [b]) (by omega)
      refine ⟨fun a ha => ?_, ?_⟩
      · rcases all_succ.1 ha with ⟨h4, _⟩ | ⟨_, b, hb, hb2, h4⟩
        · rw [ho] at h4; cases h4
        · have h5 := (ih b).1 a h4
          have h6 := h2 b hb hb2
          rw [fals_snoc] at h5
          omega
      · have none_ : fewF can m out (k + 1) p = 1024 → allF can m out (k + 1) p = [] := fun h => by
          rw [List.eq_nil_iff_forall_not_mem]
          intro a ha
          rcases all_succ.1 ha with ⟨h4, _⟩ | ⟨_, b, hb, hb2, h4⟩
          · rw [ho] at h4; cases h4
          · have h6 := h2 b hb hb2
            have h7 := costB_rng b
            rcases (ih b).2 with ⟨_, h8⟩ | ⟨_, h8, _⟩
            · rw [h8] at h4; cases h4
            · omega
        rcases h3 with h3 | ⟨b, hb, hb2, h3⟩
        · exact .inl ⟨h3, none_ h3⟩
        · have h7 := costB_rng b
          rcases (ih b).2 with ⟨h8, _⟩ | ⟨h8, h9, a, ha, h10⟩
          · left; have : fewF can m out (k + 1) p = 1024 := by omega
            exact ⟨this, none_ this⟩
          · right
            refine ⟨by omega, by omega, a, all_succ.2 (.inr ⟨ho, b, hb, hb2, ha⟩), ?_⟩
            rw [fals_snoc] at h10
            omega
theorem few_rng {k : Nat} {p : List Int} (hk : k ≤ 1000) : 0 ≤ fewF can m out k p ∧ fewF can m out k p ≤ 1024 := by
  rcases (few_spec (can := can) (m := m) (out := out) (k := k) (p := p) hk).2 with ⟨h1, h2⟩ | ⟨h1, h2, _⟩ <;> omega
theorem all_pre : ∀ {k : Nat} {p a : List Int}, a ∈ allF can m out k p → ∃ t, a = p ++ t ∧ t.length = k
  | 0, p, a, h => by
    rw [allF] at h
    exact ⟨[], by simpa using h, rfl⟩
  | k + 1, p, a, h => by
    rcases all_succ.1 h with ⟨_, h1⟩ | ⟨_, b, _, _, h1⟩
    · obtain ⟨t, rfl, h2⟩ := all_pre h1
      exact ⟨-2 :: t, by simp, by simp [h2]⟩
    · obtain ⟨t, rfl, h2⟩ := all_pre h1
      exact ⟨b :: t, by simp, by simp [h2]⟩
theorem all_len {k : Nat} {p a : List Int} (h : a ∈ allF can m out k p) : a.length = p.length + k := by
  obtain ⟨t, rfl, h2⟩ := all_pre h
  rw [List.length_append, h2]
/-- the best assignment with n more false records behind p: of the lexicographically first ones -/
def takeB (can : Nat → Int → Bool) (m k : Nat) (p : List Int) (n : Int) (b : Int) : Bool := stepB can p b && decide (fewF can m noB k (p ++ [b]) = n - costB b)
def extF (can : Nat → Int → Bool) (m : Nat) : Nat → List Int → Int → List Int
  | 0, p, _ => p
  | k + 1, p, n => match (bys m).find? (takeB can m k p n) with
    | some b => extF can m k (p ++ [b]) (n - costB b)
    | none => p
theorem ext_find {k : Nat} {p : List Int} {n : Int} (hk : k ≤ 999) (hn : fewF can m noB (k + 1) p = n) (h : n < 1024) : ∃ b, (bys m).find? (takeB can m k p n) = some b := by
  cases hf : (bys m).find? (takeB can m k p n) with
  | some b => exact ⟨b, rfl⟩
  | none =>
    rw [List.find?_eq_none] at hf
    have e1 : fewF can m noB (k + 1) p = (bys m).foldl (fun x b => if stepB can p b = true then min x (fewF can m noB k (p ++ [b]) + costB b) else x) 1024 := by rw [fewF, if_neg (by unfold noB; decide)]
    obtain ⟨h1, h2, h3⟩ := foldm_spec (f := fun b => fewF can m noB k (p ++ [b]) + costB b) (ok := stepB can p) (l := bys m) (x := 1024)
    rw [← e1, hn] at h3
    rcases h3 with h3 | ⟨b, hb, hb2, h3⟩
    · omega
    · refine absurd ?_ (hf b hb)
      unfold takeB
      rw [hb2, Bool.true_and, decide_eq_true_eq]
      omega
/-- whether an assignment has the record rec false, or true -/
def possF (can : Nat → Int → Bool) (m rec_ : Nat) (fal : Bool) : Nat → List Int → Bool
  | 0, _ => true
  | k + 1, p => (bys m).any (fun b => stepB can p b && ((!decide (p.length = rec_) || (decide (b = -1) == fal)) && possF can m rec_ fal k (p ++ [b])))
/-- what stands at a place of an assignment -/
def okAt (can : Nat → Int → Bool) (m : Nat) (out : Nat → Bool) (a : List Int) (r : Nat) : Prop := if out r = true then a.getD r 0 = -2 else a.getD r 0 ∈ bys m ∧ stepB can (a.take r) (a.getD r 0) = true
theorem take_snoc {a : List Int} {n : Nat} (h : n < a.length) : a.take (n + 1) = a.take n ++ [a.getD n 0] := take_succ_getD h
theorem mem_all : ∀ {k : Nat} {p a : List Int}, a ∈ allF can m out k p ↔ a.take p.length = p ∧ a.length = p.length + k ∧ ∀ r, p.length ≤ r → r < a.length → okAt can m out a r
  | 0, p, a => by
    rw [allF, List.mem_singleton]
    constructor
    · rintro rfl
      exact ⟨List.take_length, rfl, fun r h1 h2 => by omega⟩
    · rintro ⟨h1, h2, _⟩
      rw [← h1, ← (show a.length = p.length from h2), List.take_length]
  | k + 1, p, a => by
    rw [all_succ]
    constructor
    · rintro (⟨h1, h2⟩ | ⟨h1, b, hb, hb2, h2⟩)
      · obtain ⟨h3, h4, h5⟩ := mem_all.1 h2
        rw [List.length_append, List.length_cons, List.length_nil] at h3 h4 h5
        rw [take_snoc (by omega)] at h3
        obtain ⟨h6, h7⟩ := List.append_inj' h3 rfl
        refine ⟨h6, by omega, fun r h8 h9 => ?_⟩
        rcases Nat.eq_or_lt_of_le h8 with h10 | h10
        · rw [← h10]
          unfold okAt
          rw [if_pos h1]
          simpa using h7
        · exact h5 r (by omega) h9
      · obtain ⟨h3, h4, h5⟩ := mem_all.1 h2
        rw [List.length_append, List.length_cons, List.length_nil] at h3 h4 h5
        rw [take_snoc (by omega)] at h3
        obtain ⟨h6, h7⟩ := List.append_inj' h3 rfl
        have h7 : a.getD p.length 0 = b := by simpa using h7
        refine ⟨h6, by omega, fun r h8 h9 => ?_⟩
        rcases Nat.eq_or_lt_of_le h8 with h10 | h10
        · rw [← h10]
          unfold okAt
          rw [if_neg (by rw [h1]; decide), h7, h6]
          exact ⟨hb, hb2⟩
        · exact h5 r (by omega) h9
    · rintro ⟨h1, h2, h3⟩
      have h4 := h3 p.length (Nat.le_refl _) (by omega)
      unfold okAt at h4
      have h5 : ∀ b, a.getD p.length 0 = b → a ∈ allF can m out k (p ++ [b]) := fun b hb => by
        refine mem_all.2 ⟨?_, ?_, fun r h8 h9 => ?_⟩
        · rw [List.length_append, List.length_cons, List.length_nil, take_snoc (by omega), h1, hb]
        · rw [List.length_append, List.length_cons, List.length_nil]; omega
        · rw [List.length_append, List.length_cons, List.length_nil] at h8
          exact h3 r (by omega) h9
      cases ho : out p.length with
      | true => rw [if_pos ho] at h4; exact .inl ⟨rfl, h5 _ h4⟩
      | false =>
        rw [if_neg (by rw [ho]; decide), h1] at h4
        exact .inr ⟨rfl, _, h4.1, h4.2, h5 _ rfl⟩
end

/- ---- the smallest set that can be left out ---- -/
def leaveF (Q : List Int → Bool) (n : Nat) : Nat → Nat → List Int → Option (List Int)
  | 0, _, xs => if Q xs = true then some xs else none
  | m + 1, fr, xs => scanP (fun i => leaveF Q n m (i + 1) (xs ++ [(i : Int)])) (n - fr) fr
def leaveA (Q : List Int → Bool) (n : Nat) : Option (List Int) := scanP (fun m => leaveF Q n m 0 []) (n + 1) 0
section
variable {Q : List Int → Bool} {n : Nat}
theorem leaveF_no {fr : Nat} {xs : List Int} (h : Q xs = false) : leaveF Q n 0 fr xs = none := by rw [leaveF, if_neg (by rw [h]; decide)]
theorem leaveF_yes {fr : Nat} {xs : List Int} (h : Q xs = true) : leaveF Q n 0 fr xs = some xs := by rw [leaveF, if_pos h]
theorem leave_none : ∀ {m fr : Nat} {xs : List Int}, leaveF Q n m fr xs = none → ∀ l, Inc n m fr l → Q (xs ++ l) = false
  | 0, fr, xs, h, l, hl => by
    rw [List.length_eq_zero_iff.1 hl.1, List.append_nil, ← Bool.not_eq_true]
    intro ht
    rw [leaveF_yes ht] at h; cases h
  | m + 1, fr, xs, h, l, hl => by
    cases l with
    | nil => cases hl.1
    | cons x l =>
      obtain ⟨j, rfl, h1, h2, h3⟩ := inc_cons hl
      have h4 := scan_none (show scanP (fun i => leaveF Q n m (i + 1) (xs ++ [(i : Int)])) (n - fr) fr = none from h) j h1 (by omega)
      have := leave_none h4 l h3
      rwa [List.append_assoc] at this
theorem leave_some : ∀ {m fr : Nat} {xs r : List Int}, leaveF Q n m fr xs = some r → ∃ l, r = xs ++ l ∧ Inc n m fr l ∧ Q r = true ∧ ∀ l', Inc n m fr l' → Q (xs ++ l') = true → ¬ cmpV l' l < 0
  | 0, fr, xs, r, h => by
    by_cases ht : Q xs = true
    · rw [leaveF_yes ht] at h
      cases h
      refine ⟨[], by simp, ⟨rfl, List.Pairwise.nil, fun x hx => by simp at hx⟩, ht, fun l' hl' _ => ?_⟩
      rw [List.length_eq_zero_iff.1 hl'.1]; simp [cmpV, cmpz]
    · rw [leaveF_no (by simpa using ht)] at h; cases h
  | m + 1, fr, xs, r, h => by
    obtain ⟨j, h1, h2, h3, h4⟩ := scan_some (show scanP (fun i => leaveF Q n m (i + 1) (xs ++ [(i : Int)])) (n - fr) fr = some r from h)
    obtain ⟨l, rfl, h5, h6, h7⟩ := leave_some h3
    refine ⟨(j : Int) :: l, by simp, ⟨by rw [List.length_cons, h5.1], List.pairwise_cons.2 ⟨fun y hy => by have := h5.2.2 y hy; omega, h5.2.1⟩, fun y hy => ?_⟩, h6, fun l' hl' ht => ?_⟩
    · rcases List.mem_cons.1 hy with rfl | hy
      · omega
      · have := h5.2.2 y hy; omega
    · cases l' with
      | nil => cases hl'.1
      | cons x l' =>
        obtain ⟨j', rfl, h8, h9, h10⟩ := inc_cons hl'
        rw [cmpV_cons]
        rintro (h11 | ⟨h11, h12⟩)
        · have h13 := leave_none (h4 j' h8 (by omega)) l' h10
          rw [List.append_assoc] at h13
          rw [show xs ++ (j' : Int) :: l' = xs ++ ([(j' : Int)] ++ l') from rfl, h13] at ht; cases ht
        · obtain rfl : j' = j := by omega
          exact h7 l' h10 (by rw [List.append_assoc]; exact ht) h12
theorem leave_spec (hQ : Q (upTo n) = true) : ∃ l, leaveA Q n = some l ∧ risB l (n : Int) = true ∧ Q l = true ∧ ∀ l', risB l' (n : Int) = true → Q l' = true → ltL l' l = false := by
  unfold leaveA
  cases hs : scanP (fun m => leaveF Q n m 0 []) (n + 1) 0 with
  | none =>
    have h1 := leave_none (scan_none hs n (Nat.zero_le _) (by omega)) (upTo n) (by have := inc_ris.1 (upTo_ris n); rwa [upTo_len] at this)
    rw [List.nil_append, hQ] at h1; cases h1
  | some r =>
    obtain ⟨j, _, h2, h3, h4⟩ := scan_some hs
    obtain ⟨l, h5, h6, h7, h8⟩ := leave_some h3
    rw [List.nil_append] at h5
    subst h5
    refine ⟨r, rfl, inc_ris.2 (by rw [h6.1]; exact h6), h7, fun l' hl' hs' => ?_⟩
    have hi := inc_ris.1 hl'
    rw [← Bool.not_eq_true, ltL_iff]
    rintro (h9 | ⟨h9, h10⟩)
    · have h11 := leave_none (h4 l'.length (Nat.zero_le _) (by rw [h6.1] at h9; exact h9)) l' hi
      rw [List.nil_append, hs'] at h11; cases h11
    · rw [h9, h6.1] at hi
      exact h8 l' hi (by rw [List.nil_append]; exact hs') h10
end
def outL (xs : List Int) (r : Nat) : Bool := hasI xs (r : Int)
def leavQ (can : Nat → Int → Bool) (m n : Nat) (xs : List Int) : Bool := decide (fewF can m (outL xs) n [] < 1024)
theorem few_out {can : Nat → Int → Bool} {m : Nat} {out : Nat → Bool} : ∀ {k : Nat} {p : List Int}, (∀ r, p.length ≤ r → r < p.length + k → out r = true) → fewF can m out k p = 0
  | 0, p, _ => by rw [fewF]
  | k + 1, p, h => by
    rw [fewF, if_pos (h _ (Nat.le_refl _) (by omega))]
    exact few_out fun r h1 h2 => by
      rw [List.length_append, List.length_cons, List.length_nil] at h1 h2
      exact h r (by omega) (by omega)
theorem leavQ_all {can : Nat → Int → Bool} {m n : Nat} : leavQ can m n (upTo n) = true := by
  unfold leavQ
  rw [few_out (fun r h1 h2 => by
    unfold outL
    rw [has_iff, upTo_mem]
    rw [List.length_nil] at h2
    omega)]
  rfl
/- ---- parts of texts, in order, each once ---- -/
theorem lex_cmp : ∀ {a b : List Int}, lexLt a b = true ↔ cmpV a b < 0
  | [], [] => by simp [lexLt, cmpV]
  | [], _ :: _ => by simp [lexLt, cmpV]
  | _ :: _, [] => by simp [lexLt, cmpV]
  | x :: a, y :: b => by
    rw [cmpV_cons, lexLt]
    by_cases h : x = y
    · rw [if_pos h, lex_cmp]; omega
    · rw [if_neg h, decide_eq_true_eq]; omega
theorem ltL_lex {a b : List Int} : ltL a b = true ↔ a.length < b.length ∨ a.length = b.length ∧ lexLt a b = true := by rw [ltL_iff, lex_cmp]
def Strict (l : List (List Int)) : Prop := l.Pairwise (fun x y => ltL x y = true)
theorem strict_uniq {a b : List (List Int)} (ha : Strict a) (hb : Strict b) (h : ∀ t, t ∈ a ↔ t ∈ b) : a = b := by
  have nd : ∀ {l : List (List Int)}, Strict l → l.Nodup := fun {l} hl => hl.imp (fun h1 h2 => by subst h2; rw [ltL_irrefl] at h1; cases h1)
  exact sorted_uniq ((List.perm_ext_iff_of_nodup (nd ha) (nd hb)).2 h) (ha.imp ltL_asymm) (hb.imp ltL_asymm)
def subOf (xs : List Int) (lo n : Nat) : List Int := (xs.take (lo + n)).drop lo
theorem subOf_len {xs : List Int} {lo n : Nat} (h : lo + n ≤ xs.length) : (subOf xs lo n).length = n := by unfold subOf; rw [List.length_drop, List.length_take]; omega
def subs (xs : List Int) : List (List Int) := (List.range xs.length).flatMap (fun lo => (List.range (xs.length - lo)).map (fun d => subOf xs lo (d + 1)))
def IsSub (t xs : List Int) : Prop := 0 < t.length ∧ ∃ lo, lo + t.length ≤ xs.length ∧ t = subOf xs lo t.length
theorem mem_subs {t xs : List Int} : t ∈ subs xs ↔ IsSub t xs := by
  unfold subs IsSub
  rw [List.mem_flatMap]
  constructor
  · rintro ⟨lo, h1, h2⟩
    obtain ⟨d, h3, rfl⟩ := List.mem_map.1 h2
    have h1 := List.mem_range.1 h1
    have h3 := List.mem_range.1 h3
    have h4 := subOf_len (xs := xs) (lo := lo) (n := d + 1) (by omega)
    exact ⟨by omega, lo, by omega, by rw [h4]⟩
  · rintro ⟨h0, lo, h1, h2⟩
    exact ⟨lo, List.mem_range.2 (by omega), List.mem_map.2 ⟨t.length - 1, List.mem_range.2 (by omega), by rw [show t.length - 1 + 1 = t.length by omega]; exact h2.symm⟩⟩
def partB (t xs : List Int) : Bool := decide (0 < t.length) && (List.range (xs.length + 1 - t.length)).any (fun lo => decide (t = subOf xs lo t.length))
theorem partB_iff {t xs : List Int} : partB t xs = true ↔ IsSub t xs := by
  unfold partB IsSub
  rw [Bool.and_eq_true, decide_eq_true_eq, List.any_eq_true]
  refine and_congr_right fun h0 => ⟨?_, ?_⟩
  · rintro ⟨lo, h1, h2⟩
    have h1 := List.mem_range.1 h1
    exact ⟨lo, by omega, of_decide_eq_true h2⟩
  · rintro ⟨lo, h1, h2⟩
    exact ⟨lo, List.mem_range.2 (by omega), decide_eq_true h2⟩
/-- each once, out of a sorted list -/
def dedS (a : List (List Int)) (x : List Int) : List (List Int) := if a.getLast? = some x then a else a ++ [x]
def dedL (l : List (List Int)) : List (List Int) := l.foldl dedS []
theorem ded_snoc {l : List (List Int)} {x : List Int} : dedL (l ++ [x]) = dedS (dedL l) x := by unfold dedL; rw [List.foldl_append]; rfl
theorem dedS_last {a : List (List Int)} {x : List Int} : (dedS a x).getLast? = some x := by
  unfold dedS
  split
  · assumption
  · simp
theorem ded_acc : ∀ {l a : List (List Int)}, Strict a → l.Pairwise (fun x y => ltL y x = false) → (∀ x ∈ a, ∀ y ∈ l, ltL y x = false) → Strict (l.foldl dedS a) ∧ ∀ t, t ∈ l.foldl dedS a ↔ t ∈ a ∨ t ∈ l
  | [], a, ha, _, _ => ⟨ha, fun t => by simp⟩
  | x :: l, a, ha, hl, hx => by
    rw [List.pairwise_cons] at hl
    rw [List.foldl_cons]
    by_cases hq : a.getLast? = some x
    · have e : dedS a x = a := by unfold dedS; rw [if_pos hq]
      rw [e]
      obtain ⟨h1, h2⟩ := ded_acc ha hl.2 (fun y hy z hz => hx y hy z (by simp [hz]))
      refine ⟨h1, fun t => ?_⟩
      rw [h2, List.mem_cons]
      constructor
      · rintro (h | h)
        · exact .inl h
        · exact .inr (.inr h)
      · rintro (h | rfl | h)
        · exact .inl h
        · exact .inl (List.mem_of_getLast? hq)
        · exact .inr h
    · have e : dedS a x = a ++ [x] := by unfold dedS; rw [if_neg hq]
      rw [e]
      have hs : Strict (a ++ [x]) := by
        unfold Strict
        rw [List.pairwise_append]
        refine ⟨ha, List.pairwise_singleton _ _, fun y hy z hz => ?_⟩
        obtain rfl : z = x := by simpa using hz
        rcases ltL_total y z with h | rfl | h
        · exact h
        · exfalso
          obtain ⟨b, c, rfl⟩ : ∃ b c, a = b ++ [c] := ⟨_, _, (List.dropLast_concat_getLast (List.ne_nil_of_mem hy)).symm⟩
          rw [List.getLast?_append, List.getLast?_singleton] at hq
          have hcy : c ≠ y := fun h => hq (by rw [h]; rfl)
          rcases List.mem_append.1 hy with h | h
          · have h1 := (List.pairwise_append.1 ha).2.2 y h c (by simp)
            have h2 := hx c (by simp) y (by simp)
            rw [h1] at h2; cases h2
          · exact hcy (List.mem_singleton.1 h).symm
        · rw [hx y hy z (by simp)] at h; cases h
      obtain ⟨h1, h2⟩ := ded_acc hs hl.2 (fun y hy z hz => by
        rcases List.mem_append.1 hy with h | h
        · exact hx y h z (by simp [hz])
        · obtain rfl : y = x := by simpa using h
          exact hl.1 z hz)
      refine ⟨h1, fun t => ?_⟩
      rw [h2, List.mem_append, List.mem_singleton, List.mem_cons]
      constructor
      · rintro ((h | h) | h)
        · exact .inl h
        · exact .inr (.inl h)
        · exact .inr (.inr h)
      · rintro (h | h | h)
        · exact .inl (.inl h)
        · exact .inl (.inr h)
        · exact .inr h
theorem ded_sort {l : List (List Int)} : Strict (dedL (sortL l)) ∧ ∀ t, t ∈ dedL (sortL l) ↔ t ∈ l := by
  obtain ⟨h1, h2⟩ := ded_acc (l := sortL l) (a := []) List.Pairwise.nil (sortL_sorted l) (fun x hx => by simp at hx)
  refine ⟨h1, fun t => ?_⟩
  show t ∈ (sortL l).foldl dedS [] ↔ _
  rw [h2, (sortL_perm l).mem_iff]
  simp
/-- a text put into a list of texts of one length -/
def putA (t : List Int) (l : List (List Int)) : List (List Int) := if l.contains t = true then l else l.takeWhile (fun x => !lexLt t x) ++ t :: l.dropWhile (fun x => !lexLt t x)
theorem take_imp {α : Type} {p : α → Bool} {x : α} : ∀ {l : List α}, x ∈ l.takeWhile p → p x = true
  | [], h => by cases h
  | y :: l, h => by
    rw [List.takeWhile_cons] at h
    split at h
    · rename_i h1
      rcases List.mem_cons.1 h with rfl | h
      · exact h1
      · exact take_imp h
    · cases h
theorem putA_spec {n : Nat} {t : List Int} {l : List (List Int)} (hs : Strict l) (hn : ∀ x ∈ l, x.length = n) (ht : t.length = n) : Strict (putA t l) ∧ (∀ x, x ∈ putA t l ↔ x = t ∨ x ∈ l) := by
  unfold putA
  split
  · rename_i h
    rw [List.contains_iff_mem] at h
    exact ⟨hs, fun x => ⟨.inr, fun h2 => by rcases h2 with rfl | h2 <;> assumption⟩⟩
  · rename_i h
    rw [List.contains_iff_mem] at h
    have hsplit := List.takeWhile_append_dropWhile (p := fun x => !lexLt t x) (l := l)
    constructor
    · have hs2 := hs
      rw [← hsplit] at hs2
      unfold Strict at hs2 ⊢
      rw [List.pairwise_append] at hs2 ⊢
      have hlt : ∀ x ∈ l.takeWhile (fun x => !lexLt t x), ltL x t = true := fun x hx => by
        have h1 := take_imp hx
        have h2 : x ∈ l := List.takeWhile_subset _ hx
        rcases ltL_total x t with h3 | rfl | h3
        · exact h3
        · exact absurd h2 h
        · rw [ltL_lex] at h3
          rw [hn x h2, ht] at h3
          rw [(h3.resolve_left (Nat.lt_irrefl _)).2] at h1; cases h1
      have hgt : ∀ x ∈ l.dropWhile (fun x => !lexLt t x), ltL t x = true := by
        cases hd : l.dropWhile (fun x => !lexLt t x) with
        | nil => intro x hx; cases hx
        | cons y m =>
          have hy : lexLt t y = true := by
            have := List.head_dropWhile_not (p := fun x => !lexLt t x) (l := l) (by rw [hd]; simp)
            simp only [hd, List.head_cons] at this
            simpa using this
          have hym : y ∈ l := by rw [← hsplit, hd]; simp
          have h1 : ltL t y = true := ltL_lex.2 (.inr ⟨by rw [hn y hym, ht], hy⟩)
          intro x hx
          rcases List.mem_cons.1 hx with rfl | hx
          · exact h1
          · have h2 := hs2.2.1
            rw [hd] at h2
            exact ltL_trans h1 ((List.pairwise_cons.1 h2).1 x hx)
      refine ⟨hs2.1, List.pairwise_cons.2 ⟨hgt, hs2.2.1⟩, fun x hx y hy => ?_⟩
      rcases List.mem_cons.1 hy with rfl | hy
      · exact hlt x hx
      · exact hs2.2.2 x hx y hy
    · intro x
      rw [List.mem_append, List.mem_cons]
      have h1 : x ∈ l ↔ x ∈ l.takeWhile (fun x => !lexLt t x) ∨ x ∈ l.dropWhile (fun x => !lexLt t x) := by rw [← List.mem_append, hsplit]
      rw [h1]
      constructor
      · rintro (h | h | h)
        · exact .inr (.inl h)
        · exact .inl h
        · exact .inr (.inr h)
      · rintro (h | h | h)
        · exact .inr (.inl h)
        · exact .inl h
        · exact .inr (.inr h)
theorem put_all {n : Nat} : ∀ {ts l : List (List Int)}, Strict l → (∀ x ∈ l, x.length = n) → (∀ x ∈ ts, x.length = n) → Strict (ts.foldl (fun a t => putA t a) l) ∧ (∀ x, x ∈ ts.foldl (fun a t => putA t a) l ↔ x ∈ l ∨ x ∈ ts)
  | [], l, hs, _, _ => ⟨hs, fun x => by simp⟩
  | t :: ts, l, hs, hn, ht => by
    obtain ⟨h1, h2⟩ := putA_spec hs hn (ht t (by simp))
    obtain ⟨h3, h4⟩ := put_all (n := n) (ts := ts) (l := putA t l) h1 (fun x hx => ((h2 x).1 hx).elim (fun h => by rw [h]; exact ht t (by simp)) (hn x)) (fun x hx => ht x (by simp [hx]))
    rw [List.foldl_cons]
    refine ⟨h3, fun x => ?_⟩
    rw [h4, h2, List.mem_cons]
    constructor
    · rintro ((h | h) | h)
      · exact .inr (.inl h)
      · exact .inl h
      · exact .inr (.inr h)
    · rintro (h | h | h)
      · exact .inl (.inr h)
      · exact .inl (.inl h)
      · exact .inr h

/- ---- logs ---- -/
structure Sn where
  h : Int
  st : Int
  xs : List Int
structure RC where
  h : Int
  st : Int
  s : Sg
def sn0 : Sn := ⟨0, 0, []⟩
def rcd0 : RC := ⟨0, 0, []⟩
structure Lg where
  co : List Sg
  er : Int
  se : List Int
  J : List Sn
  R : List RC
def hourB (n : Int) : Bool := decide (0 ≤ n) && decide (n ≤ 23)
def inSt (ns : Nat) (n : Int) : Bool := decide (0 ≤ n) && decide (n ≤ (ns : Int) - 1)
def okSee (n : Int) : Bool := decide (-1 ≤ n) && decide (n ≤ 23)
def okSn (co : List Sg) (ns : Nat) (x : Sn) : Bool := (hourB x.h && inSt ns x.st) && ((decide (1 ≤ x.xs.length) && decide (x.xs.length ≤ 5)) && isText co x.xs)
def okRC (ns : Nat) (r : RC) : Bool := (hourB r.h && inSt ns r.st) && decide (signsFault r.s [] = 0)
def faultM (l : Lg) : Int := if 4 < l.se.length ∨ 8 < l.J.length ∨ 6 < l.R.length then 3 else if ¬ fault l.co = 0 then fault l.co else
  if ((((decide (0 ≤ l.er) && decide (l.er ≤ 3)) && decide (0 < l.se.length)) && l.se.all okSee) && (l.J.all (okSn l.co l.se.length) && l.R.all (okRC l.se.length))) = true then 0 else 1
theorem lg_ok {l : Lg} (h : faultM l = 0) : (1 ≤ l.se.length ∧ l.se.length ≤ 4) ∧ l.J.length ≤ 8 ∧ l.R.length ≤ 6 ∧ fault l.co = 0 ∧ (0 ≤ l.er ∧ l.er ≤ 3) ∧ (∀ n ∈ l.se, -1 ≤ n ∧ n ≤ 23) ∧
    (∀ x ∈ l.J, (0 ≤ x.h ∧ x.h ≤ 23) ∧ (0 ≤ x.st ∧ x.st ≤ (l.se.length : Int) - 1) ∧ (1 ≤ x.xs.length ∧ x.xs.length ≤ 5) ∧ isText l.co x.xs = true) ∧
    (∀ r ∈ l.R, (0 ≤ r.h ∧ r.h ≤ 23) ∧ (0 ≤ r.st ∧ r.st ≤ (l.se.length : Int) - 1) ∧ signsFault r.s [] = 0) := by
  unfold faultM at h
  split at h
  · cases h
  · rename_i h1
    split at h
    · rename_i h2; exact absurd h h2
    · rename_i h2
      split at h
      · rename_i h3
        simp only [Bool.and_eq_true, decide_eq_true_eq, List.all_eq_true, okSee, okSn, okRC, hourB, inSt] at h3
        obtain ⟨⟨⟨h4, h5⟩, h6⟩, h7, h8⟩ := h3
        refine ⟨⟨by omega, by omega⟩, by omega, by omega, by simpa using h2, h4, h6, fun x hx => ?_, fun r hr => ?_⟩
        · have := h7 x hx; exact ⟨this.1.1, this.1.2, this.2.1, this.2.2⟩
        · have := h8 r hr; exact ⟨this.1.1, this.1.2, this.2⟩
      · cases h
def readsB (l : Lg) (xs : List Int) (s : Sg) : Bool := decide (fe 1048576 (signs l.co xs) s ≤ l.er)
def heardB (se : List Int) (s : Sn) (b : Int) : Bool := !decide (se.getD s.st.toNat 0 = -1) && (decide (se.getD s.st.toNat 0 ≤ s.h) && decide (s.h < b))
def partsL (l : Lg) (b : Int) : List (List Int) := l.J.flatMap (fun s => if heardB l.se s b = true then subs s.xs else [])
def textsL (l : Lg) (b : Int) : List (List Int) := dedL (sortL (partsL l b))
def falB (l : Lg) (r : RC) : Bool := (partsL l r.h).any (fun t => readsB l t r.s)
def maskO (l : Lg) (r : RC) : Option (List Int) := (textsL l r.h).find? (fun t => readsB l t r.s)
def ownB (l : Lg) (r : RC) (s : Sn) : Bool := (decide (s.h = r.h) && decide (s.st = r.st)) && readsB l s.xs r.s
def ownL (l : Lg) (r : RC) : List Int := ((List.range l.J.length).filter (fun i => ownB l r (l.J.getD i sn0))).map (fun (i : Nat) => (i : Int))
def canB (l : Lg) (k : Nat) (b : Int) : Bool := if b = -1 then falB l (l.R.getD k rcd0) else ownB l (l.R.getD k rcd0) (l.J.getD b.toNat sn0)
theorem mem_parts {l : Lg} {b : Int} {t : List Int} : t ∈ partsL l b ↔ ∃ s ∈ l.J, heardB l.se s b = true ∧ IsSub t s.xs := by
  unfold partsL
  rw [List.mem_flatMap]
  constructor
  · rintro ⟨s, hs, h⟩
    split at h
    · rename_i h1; exact ⟨s, hs, h1, mem_subs.1 h⟩
    · cases h
  · rintro ⟨s, hs, h1, h2⟩
    exact ⟨s, hs, by rw [if_pos h1]; exact mem_subs.2 h2⟩
theorem mem_texts {l : Lg} {b : Int} {t : List Int} : t ∈ textsL l b ↔ ∃ s ∈ l.J, heardB l.se s b = true ∧ IsSub t s.xs := by
  unfold textsL
  rw [ded_sort.2, mem_parts]
/- the reference's -/
def canS (l : Lg) (t : List Int) (b : Int) : Bool := l.J.any (fun s => heardB l.se s b && partB t s.xs)
theorem canS_iff {l : Lg} {t : List Int} {b : Int} : canS l t b = true ↔ t ∈ textsL l b := by
  unfold canS
  rw [List.any_eq_true, mem_texts]
  simp only [Bool.and_eq_true, partB_iff]
def pairsM (l : Lg) (n : Nat) : List (List Int) := l.J.flatMap (fun s => (List.range (s.xs.length + 1 - n)).map (fun fr => subOf s.xs fr n))
def levelM (l : Lg) (b : Int) (n : Nat) : List (List Int) := ((pairsM l n).filter (fun t => canS l t b)).foldl (fun a t => putA t a) []
def heardK (l : Lg) (b : Int) (k : Nat) : List (List Int) := (List.range k).flatMap (fun n => levelM l b (n + 1))
theorem level_spec {l : Lg} {b : Int} {n : Nat} (hn : 1 ≤ n) : Strict (levelM l b n) ∧ (∀ t, t ∈ levelM l b n ↔ t ∈ textsL l b ∧ t.length = n) := by
  have hlen : ∀ x ∈ (pairsM l n).filter (fun t => canS l t b), x.length = n := fun x hx => by
    obtain ⟨h1, _⟩ := List.mem_filter.1 hx
    unfold pairsM at h1
    obtain ⟨s, _, h2⟩ := List.mem_flatMap.1 h1
    obtain ⟨fr, h3, rfl⟩ := List.mem_map.1 h2
    have := List.mem_range.1 h3
    exact subOf_len (by omega)
  obtain ⟨h1, h2⟩ := put_all (n := n) (ts := (pairsM l n).filter (fun t => canS l t b)) (l := []) List.Pairwise.nil (fun x hx => by cases hx) hlen
  refine ⟨h1, fun t => ?_⟩
  unfold levelM
  rw [h2]
  constructor
  · rintro (h | h)
    · cases h
    · exact ⟨canS_iff.1 (List.mem_filter.1 h).2, hlen t h⟩
  · rintro ⟨h3, h4⟩
    right
    rw [List.mem_filter]
    refine ⟨?_, canS_iff.2 h3⟩
    obtain ⟨s, hs, _, h5, lo, h6, h7⟩ := mem_texts.1 h3
    unfold pairsM
    rw [List.mem_flatMap]
    rw [h4] at h6 h7
    exact ⟨s, hs, List.mem_map.2 ⟨lo, List.mem_range.2 (by omega), h7.symm⟩⟩
theorem heardK_spec {l : Lg} {b : Int} {k : Nat} : Strict (heardK l b k) ∧ ∀ t, t ∈ heardK l b k ↔ t ∈ textsL l b ∧ 1 ≤ t.length ∧ t.length ≤ k := by
  constructor
  · unfold Strict heardK
    rw [List.pairwise_flatMap]
    refine ⟨fun n _ => (level_spec (by omega)).1, List.pairwise_lt_range.imp (fun h x hx y hy => ?_)⟩
    have h1 := ((level_spec (by omega)).2 x).1 hx
    have h2 := ((level_spec (by omega)).2 y).1 hy
    exact ltL_lex.2 (.inl (by omega))
  · intro t
    unfold heardK
    rw [List.mem_flatMap]
    constructor
    · rintro ⟨n, h1, h2⟩
      have h1 := List.mem_range.1 h1
      have h3 := ((level_spec (by omega)).2 t).1 h2
      exact ⟨h3.1, by omega, by omega⟩
    · rintro ⟨h1, h2, h3⟩
      exact ⟨t.length - 1, List.mem_range.2 (by omega), ((level_spec (by omega)).2 t).2 ⟨h1, by omega⟩⟩
theorem heard_eq {l : Lg} {b : Int} (hok : faultM l = 0) : heardK l b 5 = textsL l b := by
  refine strict_uniq heardK_spec.1 ded_sort.1 fun t => ?_
  rw [heardK_spec.2]
  refine ⟨fun h => h.1, fun h => ⟨h, ?_⟩⟩
  obtain ⟨s, hs, _, h5, lo, h6, _⟩ := mem_texts.1 h
  have := ((lg_ok hok).2.2.2.2.2.2.1 s hs).2.2.1
  omega
def bestM (l : Lg) : List Int := extF (canB l) l.J.length l.R.length [] (fewF (canB l) l.J.length noB l.R.length [])
def leaveM (l : Lg) : List Int := (leaveA (leavQ (canB l) l.J.length l.R.length) l.R.length).getD []
def ownV (l : Lg) (r : Nat) : Bool := possF (canB l) l.J.length r false l.R.length []
def falV (l : Lg) (r : Nat) : Bool := possF (canB l) l.J.length r true l.R.length []
def verdV (l : Lg) (r : Nat) : Int := if (ownV l r && falV l r) = true then 3 else if ownV l r = true then 1 else 2
end Go.Proofs.YtekkdhpgcilpdaaGreat
