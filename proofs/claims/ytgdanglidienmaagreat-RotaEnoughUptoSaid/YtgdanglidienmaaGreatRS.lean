/- Contracts. -/
import Derived.Test.YtgdanglidienmaaGreatR18
import Derived.Test.YtgdanglidienmaaGreatRQ
set_option linter.unusedVariables false
set_option linter.unusedSimpArgs false
namespace Go.Proofs.YtgdanglidienmaaGreat
open Go Go.RowKit Go.Gv Go.Fl

/- ---- all rotas are gone through ---- -/
theorem digK_succ {b n k : Nat} : digK b n (k + 1) = bitsL (n % b) :: digK b (n / b) k := by
  unfold digK
  rw [List.range_succ_eq_map, List.map_cons, List.map_map]
  congr 1
  · rw [Nat.pow_zero, Nat.div_one]
  · refine List.map_congr_left fun i _ => ?_
    show bitsL (n / b ^ (i + 1) % b) = _
    rw [Nat.pow_succ', ← Nat.div_div_eq_div_mul]
theorem nth_IsR {nd : List Int} {p n : Nat} (hp : p ≤ 20) : IsR nd p (nthL p nd.length n) := by
  refine ⟨by unfold nthL digK; simp, fun on hon => ?_⟩
  obtain ⟨i, _, rfl⟩ := List.mem_map.1 hon
  exact bits_ris (Nat.mod_lt _ (Nat.two_pow_pos p)) hp
theorem dig_surj {p : Nat} (hp : p ≤ 20) : ∀ {R : List (List Int)}, (∀ on ∈ R, risB on (p : Int) = true) → ∃ n, n < (2 ^ p) ^ R.length ∧ digK (2 ^ p) n R.length = R
  | [], _ => ⟨0, by simp, rfl⟩
  | on :: R, h => by
    obtain ⟨m, hm, he⟩ := bits_surj hp (h on (by simp))
    obtain ⟨n, hn, hd⟩ := dig_surj hp (R := R) (fun x hx => h x (by simp [hx]))
    refine ⟨m + 2 ^ p * n, ?_, ?_⟩
    · rw [List.length_cons, Nat.pow_succ']
      have : 2 ^ p * (n + 1) ≤ 2 ^ p * (2 ^ p) ^ R.length := Nat.mul_le_mul_left _ hn
      rw [Nat.mul_add, Nat.mul_one] at this
      omega
    · rw [List.length_cons, digK_succ, Nat.add_mul_mod_self_left, Nat.mod_eq_of_lt hm, he, Nat.add_mul_div_left _ _ (Nat.two_pow_pos p), Nat.div_eq_of_lt hm, Nat.zero_add, hd]
theorem nth_surj {nd : List Int} {p : Nat} {R : List (List Int)} (hp : p ≤ 20) (h : IsR nd p R) : ∃ n, n < 2 ^ (p * nd.length) ∧ nthL p nd.length n = R := by
  obtain ⟨n, hn, he⟩ := dig_surj hp h.2
  rw [h.1] at hn he
  exact ⟨n, by rw [Nat.pow_mul]; exact hn, he⟩
theorem smB_cons {a b : List Int} {A B : List (List Int)} : smB (a :: A) (b :: B) = true ↔ ltL a b = true ∨ a = b ∧ smB A B = true := by
  rw [smB]
  rcases ltL_total a b with h | rfl | h
  · rw [h]; simp
  · rw [ltL_irrefl]; simp
  · have h2 := ltL_asymm h
    rw [h, h2, Bool.or_true, if_pos rfl]
    constructor
    · intro h3; cases h3
    · rintro (h3 | ⟨h3, _⟩)
      · exact h3
      · subst h3; rw [ltL_irrefl] at h; cases h
theorem smB_trans : ∀ {A B C : List (List Int)}, smB A B = true → smB B C = true → smB A C = true
  | [], _, _, h, _ => by cases h
  | a :: A, [], _, h, _ => by cases h
  | a :: A, b :: B, [], _, h => by cases h
  | a :: A, b :: B, c :: C, h1, h2 => by
    rw [smB_cons] at h1 h2 ⊢
    rcases h1 with h1 | ⟨rfl, h1⟩ <;> rcases h2 with h2 | ⟨rfl, h2⟩
    · exact .inl (ltL_trans h1 h2)
    · exact .inl h1
    · exact .inl h2
    · exact .inr ⟨rfl, smB_trans h1 h2⟩
theorem smB_irrefl : ∀ A : List (List Int), smB A A = false
  | [] => rfl
  | a :: A => by
    rw [← Bool.not_eq_true, smB_cons]
    rintro (h | ⟨_, h⟩)
    · rw [ltL_irrefl] at h; cases h
    · rw [smB_irrefl A] at h; cases h
def goodN (nd : List Int) (pl : List PV) (C : List (List Int)) (so : Nat) (T : List (List Int)) : Bool := T.all (inS so) && safeX nd pl C T
/-- a is no better than b -/
def nb (a b : List (List Int)) : Prop := dut b < dut a ∨ dut b = dut a ∧ smB a b = false
theorem bestS_eq {nd : List Int} {pl : List PV} {C : List (List Int)} {so : Nat} {b : List (List Int)} {n : Nat} : bestS nd pl C so b n = if (fineB (nthL pl.length nd.length n) b && goodN nd pl C so (nthL pl.length nd.length n)) = true then nthL pl.length nd.length n else b := by
  unfold bestS goodN
  rw [Bool.and_assoc]
theorem bestN_inv {nd : List Int} {pl : List PV} {C : List (List Int)} {so : Nat} (hn : 0 < nd.length) : ∀ n : Nat, (bestN nd pl C so n = [] ∧ ∀ m, m < n → goodN nd pl C so (nthL pl.length nd.length m) = false) ∨
    ∃ m, m < n ∧ bestN nd pl C so n = nthL pl.length nd.length m ∧ goodN nd pl C so (nthL pl.length nd.length m) = true ∧ ∀ m', m' < n → goodN nd pl C so (nthL pl.length nd.length m') = true → nb (nthL pl.length nd.length m') (nthL pl.length nd.length m)
  | 0 => .inl ⟨rfl, fun m h => absurd h (Nat.not_lt_zero _)⟩
  | n + 1 => by
    have hlen : ∀ m, (nthL pl.length nd.length m).length = nd.length := fun m => by unfold nthL digK; simp
    rw [bestN_succ, bestS_eq]
    cases hg : goodN nd pl C so (nthL pl.length nd.length n) with
    | false =>
      rw [Bool.and_false, if_neg (by decide)]
      rcases bestN_inv hn n with ⟨h1, h2⟩ | ⟨m, h1, h2, h3, h4⟩
      · refine .inl ⟨h1, fun m hm => ?_⟩
        rcases Nat.lt_succ_iff_lt_or_eq.1 hm with h | rfl
        · exact h2 m h
        · exact hg
      · refine .inr ⟨m, by omega, h2, h3, fun m' hm hgm => ?_⟩
        rcases Nat.lt_succ_iff_lt_or_eq.1 hm with h | rfl
        · exact h4 m' h hgm
        · rw [hg] at hgm; cases hgm
    | true =>
      rw [Bool.and_true]
      rcases bestN_inv hn n with ⟨h1, h2⟩ | ⟨m, h1, h2, h3, h4⟩
      · rw [h1, fine_1 rfl, if_pos rfl]
        refine .inr ⟨n, by omega, rfl, hg, fun m' hm hgm => ?_⟩
        rcases Nat.lt_succ_iff_lt_or_eq.1 hm with h | rfl
        · rw [h2 m' h] at hgm; cases hgm
        · exact .inr ⟨rfl, smB_irrefl _⟩
      · rw [h2]
        have hl : (nthL pl.length nd.length m).length ≠ 0 := by rw [hlen]; omega
        by_cases hf : fineB (nthL pl.length nd.length n) (nthL pl.length nd.length m) = true
        · rw [if_pos hf]
          refine .inr ⟨n, by omega, rfl, hg, fun m' hm hgm => ?_⟩
          have hbet : dut (nthL pl.length nd.length n) < dut (nthL pl.length nd.length m) ∨ dut (nthL pl.length nd.length n) = dut (nthL pl.length nd.length m) ∧ smB (nthL pl.length nd.length n) (nthL pl.length nd.length m) = true := by
            rcases (show dut (nthL pl.length nd.length n) < dut (nthL pl.length nd.length m) ∨ dut (nthL pl.length nd.length n) = dut (nthL pl.length nd.length m) ∨ dut (nthL pl.length nd.length m) < dut (nthL pl.length nd.length n) by omega) with h5 | h5 | h5
            · exact .inl h5
            · rw [fine_3 hl h5] at hf; exact .inr ⟨h5, hf⟩
            · rw [fine_4 hl (by omega) (by omega)] at hf; cases hf
          rcases Nat.lt_succ_iff_lt_or_eq.1 hm with h | rfl
          · have h6 := h4 m' h hgm
            unfold nb at *
            rcases hbet with h7 | ⟨h7, h8⟩ <;> rcases h6 with h9 | ⟨h9, h10⟩
            · left; omega
            · left; omega
            · left; omega
            · right
              refine ⟨by omega, ?_⟩
              rw [← Bool.not_eq_true]
              intro h11
              rw [smB_trans h11 h8] at h10; cases h10
          · exact .inr ⟨rfl, smB_irrefl _⟩
        · rw [if_neg hf]
          refine .inr ⟨m, by omega, rfl, h3, fun m' hm hgm => ?_⟩
          rcases Nat.lt_succ_iff_lt_or_eq.1 hm with h | rfl
          · exact h4 m' h hgm
          · unfold nb
            rcases (show dut (nthL pl.length nd.length m') < dut (nthL pl.length nd.length m) ∨ dut (nthL pl.length nd.length m') = dut (nthL pl.length nd.length m) ∨ dut (nthL pl.length nd.length m) < dut (nthL pl.length nd.length m') by omega) with h5 | h5 | h5
            · exact absurd (fine_2 h5) hf
            · rw [fine_3 hl h5] at hf; exact .inr ⟨h5.symm, by simpa using hf⟩
            · exact .inl h5
theorem inB_iff {so : Nat} {i : Int} (hso : so < 2 ^ 20) (hi : 0 ≤ i) : inB so i = true ↔ i ∈ bitsL so := by
  rw [bits_mem hso]
  constructor
  · intro h; exact ⟨i.toNat, by omega, h⟩
  · rintro ⟨j, rfl, h⟩; unfold inB; rw [Int.toNat_natCast]; exact h
section
variable {nd : List Int} {pl : List PV} {L : List SV}
theorem good_iff (hok : faultP (po nd pl L) = 0) {so : Nat} (hso : so < 2 ^ 20) {T : List (List Int)} (hT : IsR nd pl.length T) : goodN nd pl (L.map (·.xs)) so T = true ↔ (∀ on ∈ T, ∀ i ∈ on, i ∈ bitsL so) ∧ chn nd pl (L.map (·.xs)) 0 stood0 T = true := by
  obtain ⟨⟨hn1, hn5⟩, ⟨hp1, hp4⟩, hL4, hnn, hpp, hLL⟩ := po_ok hok
  unfold goodN
  rw [Bool.and_eq_true, safe_eq hp4 (fun x hx => (hpp x hx).2.2.1) hT.2, List.all_eq_true]
  refine and_congr_left fun _ => ?_
  constructor
  · intro h on hon i hi
    exact (inB_iff hso ((ris_iff.1 (hT.2 on hon)).2 i hi).1).1 (List.all_eq_true.1 (h on hon) i hi)
  · intro h on hon
    exact List.all_eq_true.2 fun i hi => (inB_iff hso ((ris_iff.1 (hT.2 on hon)).2 i hi).1).2 (h on hon i hi)
theorem bestN_ne (hok : faultP (po nd pl L) = 0) {so : Nat} (hso : so < 2 ^ 20) : canN nd pl (L.map (·.xs)) so = true ↔ ∃ R, IsR nd pl.length R ∧ (∀ on ∈ R, ∀ i ∈ on, i ∈ bitsL so) ∧ chn nd pl (L.map (·.xs)) 0 stood0 R = true := by
  obtain ⟨⟨hn1, hn5⟩, ⟨hp1, hp4⟩, _⟩ := po_ok hok
  unfold canN
  rw [decide_eq_true_eq]
  rcases bestN_inv (pl := pl) (C := L.map (·.xs)) (so := so) (show 0 < nd.length by omega) (2 ^ (pl.length * nd.length)) with ⟨h1, h2⟩ | ⟨m, h1, h2, h3, _⟩
  · rw [h1]
    constructor
    · intro h; simp at h
    · rintro ⟨R, hR, hi, hc⟩
      obtain ⟨n, hn, he⟩ := nth_surj (by omega) hR
      have := h2 n hn
      rw [he, (good_iff hok hso hR).2 ⟨hi, hc⟩] at this; cases this
  · have hI := nth_IsR (nd := nd) (p := pl.length) (n := m) (by omega)
    have h4 := (good_iff hok hso hI).1 h3
    rw [h2, hI.1]
    exact ⟨fun _ => ⟨_, hI, h4⟩, fun _ => by omega⟩
theorem canN_eq (hok : faultP (po nd pl L) = 0) {so : Nat} (hso : so < 2 ^ pl.length) : canN nd pl (L.map (·.xs)) so = canP nd pl (L.map (·.xs)) (bitsL so) := by
  obtain ⟨_, ⟨hp1, hp4⟩, _⟩ := po_ok hok
  have hlt : so < 2 ^ 20 := Nat.lt_of_lt_of_le hso (Nat.pow_le_pow_right (by decide) (by omega))
  rw [Bool.eq_iff_iff, bestN_ne hok hlt, can_iff hok (bits_ris hso (by omega))]
theorem full_lt {n : Nat} : 2 ^ n - 1 < 2 ^ n := by have := Nat.two_pow_pos n; omega
/-- the best rota by the reference is the best one -/
theorem bestN_eq (hok : faultP (po nd pl L) = 0) : (bestN nd pl (L.map (·.xs)) (2 ^ pl.length - 1) (2 ^ (pl.length * nd.length)) = [] ∧ bestR nd pl L = ([], 0, 10)) ∨
    (bestN nd pl (L.map (·.xs)) (2 ^ pl.length - 1) (2 ^ (pl.length * nd.length)) ≠ [] ∧ bestR nd pl L = (bestN nd pl (L.map (·.xs)) (2 ^ pl.length - 1) (2 ^ (pl.length * nd.length)), dut (bestN nd pl (L.map (·.xs)) (2 ^ pl.length - 1) (2 ^ (pl.length * nd.length))), 0)) := by
  obtain ⟨⟨hn1, hn5⟩, ⟨hp1, hp4⟩, _⟩ := po_ok hok
  have hlt : 2 ^ pl.length - 1 < 2 ^ 20 := Nat.lt_of_lt_of_le full_lt (Nat.pow_le_pow_right (by decide) (by omega))
  have hall : ∀ {R}, IsR nd pl.length R → ∀ on ∈ R, ∀ i ∈ on, i ∈ bitsL (2 ^ pl.length - 1) := fun hR on hon i hi => by
    rw [bits_all (by omega)]
    exact upTo_mem.2 ((ris_iff.1 (hR.2 on hon)).2 i hi)
  rcases bestN_inv (pl := pl) (C := L.map (·.xs)) (so := 2 ^ pl.length - 1) (show 0 < nd.length by omega) (2 ^ (pl.length * nd.length)) with ⟨h1, h2⟩ | ⟨m, h1, h2, h3, h4⟩ <;> rcases best_spec hok with ⟨h5, h6⟩ | ⟨R, h5, h6, h7, h8⟩
  · exact .inl ⟨h1, h5⟩
  · obtain ⟨n, hn, he⟩ := nth_surj (by omega) h6
    have := h2 n hn
    rw [he, (good_iff hok hlt h6).2 ⟨hall h6, h7⟩] at this; cases this
  · have hI := nth_IsR (nd := nd) (p := pl.length) (n := m) (by omega)
    have := h6 _ hI
    rw [((good_iff hok hlt hI).1 h3).2] at this; cases this
  · right
    have hI := nth_IsR (nd := nd) (p := pl.length) (n := m) (by omega)
    have hg := (good_iff hok hlt hI).1 h3
    obtain ⟨n, hn, he⟩ := nth_surj (by omega) h6
    have h9 := h4 n hn (by rw [he]; exact (good_iff hok hlt h6).2 ⟨hall h6, h7⟩)
    rw [he] at h9
    have h10 := h8 _ hI hg.2
    rw [h2]
    have heq : R = nthL pl.length nd.length m := by
      unfold nb at h9
      rcases smB_total (A := R) (B := nthL pl.length nd.length m) (by rw [h6.1, hI.1]) with h | h | h
      · rcases h9 with h9 | ⟨_, h9⟩
        · rcases h10 with h10 | ⟨h10, _⟩ <;> omega
        · rw [h] at h9; cases h9
      · exact h
      · rcases h10 with h10 | ⟨_, h10⟩
        · rcases h9 with h9 | ⟨h9, _⟩ <;> omega
        · rw [h] at h10; cases h10
    refine ⟨fun h => ?_, by rw [h5, heq]⟩
    have := hI.1
    rw [h] at this
    simp at this
    omega
theorem enoughN_inv (hok : faultP (po nd pl L) = 0) (hc : canN nd pl (L.map (·.xs)) (2 ^ pl.length - 1) = true) : ∀ k : Nat, k ≤ 2 ^ pl.length - 1 → (risB (enoughN nd pl (L.map (·.xs)) k) (pl.length : Int) = true ∧ canP nd pl (L.map (·.xs)) (enoughN nd pl (L.map (·.xs)) k) = true ∧ ltL (bitsL (2 ^ pl.length - 1)) (enoughN nd pl (L.map (·.xs)) k) = false ∧
    ∀ j, j < k → canP nd pl (L.map (·.xs)) (bitsL j) = true → ltL (bitsL j) (enoughN nd pl (L.map (·.xs)) k) = false)
  | 0, _ => by
    obtain ⟨_, ⟨hp1, hp4⟩, _⟩ := po_ok hok
    rw [en_zero]
    exact ⟨bits_ris full_lt (by omega), by rw [← canN_eq hok full_lt]; exact hc, ltL_irrefl _, fun j hj => absurd hj (Nat.not_lt_zero _)⟩
  | k + 1, hk => by
    obtain ⟨_, ⟨hp1, hp4⟩, _⟩ := po_ok hok
    obtain ⟨h1, h2, h3, h4⟩ := enoughN_inv hok hc k (by omega)
    have hkl : k < 2 ^ pl.length := by omega
    rw [en_succ hc]
    unfold enoughS
    rw [canN_eq hok hkl]
    by_cases h : (ltL (bitsL k) (enoughN nd pl (L.map (·.xs)) k) && canP nd pl (L.map (·.xs)) (bitsL k)) = true
    · rw [if_pos h]
      rw [Bool.and_eq_true] at h
      have hbet : ∀ x, ltL x (enoughN nd pl (L.map (·.xs)) k) = false → ltL x (bitsL k) = false := fun x hx => by
        rw [← Bool.not_eq_true]
        intro h5
        rw [ltL_trans h5 h.1] at hx; cases hx
      refine ⟨bits_ris hkl (by omega), h.2, hbet _ h3, fun j hj hcj => ?_⟩
      rcases Nat.lt_succ_iff_lt_or_eq.1 hj with h5 | rfl
      · exact hbet _ (h4 j h5 hcj)
      · exact ltL_irrefl _
    · rw [if_neg h]
      refine ⟨h1, h2, h3, fun j hj hcj => ?_⟩
      rcases Nat.lt_succ_iff_lt_or_eq.1 hj with h5 | rfl
      · exact h4 j h5 hcj
      · rw [hcj, Bool.and_true] at h; simpa using h
/-- the smallest set by the reference is the smallest one -/
theorem enoughN_eq (hok : faultP (po nd pl L) = 0) : (canN nd pl (L.map (·.xs)) (2 ^ pl.length - 1) = false ∧ enoughR nd pl L = (10, [])) ∨
    (canN nd pl (L.map (·.xs)) (2 ^ pl.length - 1) = true ∧ enoughR nd pl L = (0, enoughN nd pl (L.map (·.xs)) (2 ^ pl.length - 1))) := by
  obtain ⟨_, ⟨hp1, hp4⟩, _⟩ := po_ok hok
  have hlt : 2 ^ pl.length - 1 < 2 ^ 20 := Nat.lt_of_lt_of_le full_lt (Nat.pow_le_pow_right (by decide) (by omega))
  cases hc : canN nd pl (L.map (·.xs)) (2 ^ pl.length - 1) with
  | false =>
    left
    refine ⟨rfl, ?_⟩
    rcases enough_spec hok with ⟨h1, _⟩ | ⟨l, _, h2, h3, _⟩
    · exact h1
    · obtain ⟨R, hR, hRl, hch⟩ := (can_iff hok h2).1 h3
      have := (bestN_ne hok hlt).2 ⟨R, hR, fun on hon i hi => by rw [bits_all (by omega)]; exact upTo_mem.2 ((ris_iff.1 (hR.2 on hon)).2 i hi), hch⟩
      rw [hc] at this; cases this
  | true =>
    right
    refine ⟨rfl, ?_⟩
    obtain ⟨h1, h2, h3, h4⟩ := enoughN_inv hok hc (2 ^ pl.length - 1) (Nat.le_refl _)
    rcases enough_spec hok with ⟨_, h5⟩ | ⟨l, h5, h6, h7, h8⟩
    · obtain ⟨R, hR, _, hch⟩ := (bestN_ne hok hlt).1 hc
      rw [h5 R hR] at hch; cases hch
    · rw [h5]
      congr 1
      have h9 := h8 _ h1 h2
      obtain ⟨m, hm, he⟩ := bits_surj (by omega) h6
      have h10 : ltL l (enoughN nd pl (L.map (·.xs)) (2 ^ pl.length - 1)) = false := by
        rcases Nat.lt_or_ge m (2 ^ pl.length - 1) with h11 | h11
        · rw [← he]; exact h4 m h11 (by rw [he]; exact h7)
        · rw [← he, show m = 2 ^ pl.length - 1 by omega]; exact h3
      rcases ltL_total l (enoughN nd pl (L.map (·.xs)) (2 ^ pl.length - 1)) with h | h | h
      · rw [h] at h10; cases h10
      · exact h
      · rw [h] at h9; cases h9
theorem bestN_none (hok : faultP (po nd pl L) = 0) {B : List SV} (h : B.map (·.xs) = bestN nd pl (L.map (·.xs)) (2 ^ pl.length - 1) (2 ^ (pl.length * nd.length))) (h0 : ¬ 0 < B.length) : bestR nd pl L = (B.map (·.xs), dut (B.map (·.xs)), 10) := by
  have hB : B = [] := List.length_eq_zero_iff.1 (by omega)
  subst hB
  rcases bestN_eq hok with ⟨_, h2⟩ | ⟨h1, _⟩
  · exact h2
  · exact absurd h.symm h1
theorem bestN_some (hok : faultP (po nd pl L) = 0) {B : List SV} (h : B.map (·.xs) = bestN nd pl (L.map (·.xs)) (2 ^ pl.length - 1) (2 ^ (pl.length * nd.length))) (h0 : 0 < B.length) : bestR nd pl L = (B.map (·.xs), dut (B.map (·.xs)), 0) := by
  rcases bestN_eq hok with ⟨h1, _⟩ | ⟨_, h2⟩
  · rw [h1] at h
    have := congrArg List.length h
    rw [List.length_map, List.length_nil] at this
    omega
  · rw [h]; exact h2
theorem bestR_small (hok : faultP (po nd pl L) = 0) : (bestR nd pl L).1.length ≤ 2097152 ∧ ∀ t ∈ (bestR nd pl L).1, t.length ≤ 2097152 := by
  obtain ⟨⟨hn1, hn5⟩, ⟨hp1, hp4⟩, _⟩ := po_ok hok
  rcases best_spec hok with ⟨h1, _⟩ | ⟨R, h1, h2, _⟩
  · rw [h1]; exact ⟨by decide, by simp⟩
  · rw [h1]
    exact ⟨by show R.length ≤ _; rw [h2.1]; omega, fun t ht => by have := ris_len (h2.2 t ht); omega⟩
theorem best_small (hok : faultP (po nd pl L) = 0) {B : List SV} (h : B.map (·.xs) = bestN nd pl (L.map (·.xs)) (2 ^ pl.length - 1) (2 ^ (pl.length * nd.length))) : B.length ≤ 2097152 ∧ ∀ s ∈ B, s.xs.length ≤ 2097152 := by
  have h1 := bestR_small hok
  have h2 : (bestR nd pl L).1 = B.map (·.xs) := by
    rcases Nat.eq_zero_or_pos B.length with h3 | h3
    · rw [bestN_none hok h (by omega)]
    · rw [bestN_some hok h h3]
  rw [h2, List.length_map] at h1
  exact ⟨h1.1, fun s hs => h1.2 _ (List.mem_map.2 ⟨s, hs, rfl⟩)⟩
theorem so_small {n : Nat} (h : n ≤ 4) : 2 ^ n - 1 < 1048576 := by
  have : 2 ^ n ≤ 2 ^ 4 := Nat.pow_le_pow_right (by decide) h
  omega
theorem so_eq (n : Nat) : ((2 ^ n - 1 : Nat) : Int) = 1 * 2 ^ ((n : Int).toNat) - 1 := by
  have := Nat.two_pow_pos n
  rw [Int.toNat_natCast, Int.one_mul, Int.natCast_sub this]
  simp
theorem enoughN_len (hok : faultP (po nd pl L) = 0) : (enoughN nd pl (L.map (·.xs)) (2 ^ pl.length - 1)).length ≤ 20 := by
  obtain ⟨_, ⟨hp1, hp4⟩, _⟩ := po_ok hok
  cases hc : canN nd pl (L.map (·.xs)) (2 ^ pl.length - 1) with
  | false => rw [en_none hc _ 0, en_zero]; exact bits_len _
  | true =>
    have := ris_len (enoughN_inv hok hc _ (Nat.le_refl _)).1
    omega
theorem enoughN_no (hok : faultP (po nd pl L) = 0) (h : canN nd pl (L.map (·.xs)) (2 ^ pl.length - 1) = false) : enoughR nd pl L = (10, []) := by
  rcases enoughN_eq hok with ⟨_, h2⟩ | ⟨h1, _⟩
  · exact h2
  · rw [h] at h1; cases h1
theorem enoughN_yes (hok : faultP (po nd pl L) = 0) (h : canN nd pl (L.map (·.xs)) (2 ^ pl.length - 1) = true) : enoughR nd pl L = (0, enoughN nd pl (L.map (·.xs)) (2 ^ pl.length - 1)) := by
  rcases enoughN_eq hok with ⟨h1, _⟩ | ⟨_, h2⟩
  · rw [h] at h1; cases h1
  · exact h2
end



end Go.Proofs.YtgdanglidienmaaGreat
