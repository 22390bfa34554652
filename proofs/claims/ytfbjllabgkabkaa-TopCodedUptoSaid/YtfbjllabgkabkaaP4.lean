/- Contracts. -/
import Derived.Test.YtfbjllabgkabkaaC3
import Derived.Test.YtfbjllabgkabkaaE5
set_option linter.unusedVariables false
set_option linter.unusedSimpArgs false
namespace Go.Proofs.Ytfbjllabgkabkaa
open Go Go.RowKit Go.Gv Go.Fl

/- plain laws of books and of digits -/
theorem inv_mul {S m : Int} (hS : PRL.contains S = true) (hm : 1 ≤ m ∧ m ≤ S - 1) : (m * invI S m) % S = 1 := by
  have key : ∀ x ∈ PRL, ∀ i ∈ List.range 41, (1 ≤ i ∧ (i : Int) < x) → ((i : Int) * invI x (i : Int)) % x = 1 := by decide +kernel
  have hSr := prS hS
  have := key S (by simpa using hS) m.toNat (List.mem_range.2 (by omega)) (by omega)
  rwa [Int.toNat_of_nonneg (by omega)] at this
theorem add3 (A B C S : Int) : ((A % S + B % S) + C) % S = (A + B + C) % S := by
  rw [Int.add_emod, Int.add_emod (A % S) (B % S), Int.emod_emod, Int.emod_emod, ← Int.add_emod A B, ← Int.add_emod]
theorem dec_code {S x i : Int} {k : K3} (hS : PRL.contains S = true) (hk : keyOk S k.m k.a k.s = true) (hx : 0 ≤ x ∧ x ≤ S - 1) :
    ((((k.m * x + k.a + i * k.s) % S + (S - k.a) % S) + i * (S - k.s)) % S) * invI S k.m % S = x := by
  have hSr := prS hS
  obtain ⟨hm, _, _⟩ := keyOk_iff.1 hk
  have hi := inv_mul hS hm
  rw [add3]
  have h1 : k.m * x + k.a + i * k.s + (S - k.a) + i * (S - k.s) = k.m * x + S * (1 + i) := by
    rw [Int.mul_sub, Int.mul_add, Int.mul_comm S i]; omega
  rw [h1, Int.add_mul_emod_self_left, Int.mul_emod, Int.emod_emod, ← Int.mul_emod]
  have h2 : k.m * x * invI S k.m = x * (k.m * invI S k.m) := by rw [Int.mul_comm k.m x, Int.mul_assoc]
  rw [h2, Int.mul_emod, hi, Int.mul_one, Int.emod_emod]
  exact Int.emod_eq_of_lt hx.1 (by omega)
section
variable {S : Int} {ks : List K3} {ds : List Int} {d : Nat} {xs : List Int}
theorem codeL_len : (codeL S ks ds d xs).length = xs.length + 2 := by unfold codeL; rw [List.length_append, headL_len]; rfl
theorem codeL_take : (codeL S ks ds d xs).take ((codeL S ks ds d xs).length - 1) = headL S ks ds d xs := by
  have : (codeL S ks ds d xs).length - 1 = (headL S ks ds d xs).length := by rw [codeL_len, headL_len]; omega
  rw [this]; unfold codeL; exact List.take_left
theorem codeL_last : (codeL S ks ds d xs).getD ((codeL S ks ds d xs).length - 1) 0 = sumN (headL S ks ds d xs) (headL S ks ds d xs).length % S := by
  have : (codeL S ks ds d xs).length - 1 = (headL S ks ds d xs).length := by rw [codeL_len, headL_len]; omega
  rw [this]; unfold codeL
  rw [List.getD_eq_getElem?_getD, List.getElem?_append_right (Nat.le_refl _), Nat.sub_self]; rfl
theorem codeL_zero : (codeL S ks ds d xs).getD 0 0 = (ds.getD d 0 + (d : Int)) % (ks.length : Int) := rfl
theorem codeL_in (hS : 13 ≤ S ∧ S ≤ 41) (hk : 0 < ks.length) (h5 : ks.length ≤ 5) : ∀ x ∈ codeL S ks ds d xs, inS S x = true := by
  intro x hx
  rw [inS_iff]
  unfold codeL at hx
  rcases List.mem_append.1 hx with h | h
  · exact headL_in hS hk h5 x h
  · have h := List.mem_singleton.1 h
    subst h
    have h1 := Int.emod_nonneg (sumN (headL S ks ds d xs) (headL S ks ds d xs).length) (show S ≠ 0 by omega)
    have h2 := Int.emod_lt_of_pos (sumN (headL S ks ds d xs) (headL S ks ds d xs).length) (show 0 < S by omega)
    omega
theorem headL_drop : (headL S ks ds d xs).drop 1 = (List.range xs.length).map (codeI S (keyAt ks ds d) xs) := rfl
theorem map_getD {f : Nat → Int} {n i : Nat} (h : i < n) : ((List.range n).map f).getD i 0 = f i := by
  rw [List.getD_eq_getElem?_getD, List.getElem?_map, List.getElem?_range h]; rfl
theorem decR_code (hS : PRL.contains S = true) (hk : keyOk S (keyAt ks ds d).m (keyAt ks ds d).a (keyAt ks ds d).s = true) (hx : ∀ x ∈ xs, inS S x = true) : decR S ks ds d (codeL S ks ds d xs) = (0, xs) := by
  rw [dec_0 codeL_zero (by rw [codeL_take]; exact codeL_last), codeL_take, headL_drop]
  congr 1
  rw [List.length_map, List.length_range]
  apply List.ext_getElem (by simp)
  intro i h1 h2
  have hi : i < xs.length := h2
  rw [List.getElem_map, List.getElem_range]
  unfold decI
  rw [map_getD hi]
  unfold codeI
  rw [dec_code hS hk (inS_iff.1 (hx _ (getD_lt hi)))]
  rw [List.getD_eq_getElem?_getD, List.getElem?_eq_getElem hi]; rfl
theorem sumN_set {l : List Int} {k : Nat} {v : Int} : ∀ n, n ≤ l.length → sumN (l.set k v) n = sumN l n + (if k < n then ((k : Int) + 1) * (v - l.getD k 0) else 0)
  | 0, _ => by simp [sumN]
  | n + 1, h => by
    rw [sumN, sumN, sumN_set n (by omega)]
    by_cases hk : k = n
    · subst hk
      rw [Gv.getD_set_eq (by omega), if_neg (Nat.lt_irrefl _), if_pos (Nat.lt_succ_self _), Int.mul_sub]; omega
    · rw [Gv.getD_set_ne hk]
      by_cases h2 : k < n
      · rw [if_pos h2, if_pos (by omega)]; omega
      · rw [if_neg h2, if_neg (by omega), Int.add_zero, Int.add_zero]
theorem prime_free {S a b : Int} {k : Nat} (hS : PRL.contains S = true) (hk : k < 12) (ha : 0 ≤ a ∧ a ≤ S - 1) (hb : 0 ≤ b ∧ b ≤ S - 1) (hm : (((k : Int) + 1) * (a - b)) % S = 0) : a = b := by
  have key : ∀ x ∈ PRL, ∀ i ∈ List.range 12, Nat.gcd x.natAbs (i + 1) = 1 := by decide +kernel
  have hg := key S (by simpa using hS) k (List.mem_range.2 hk)
  have hSr := prS hS
  have hd : S.natAbs ∣ (k + 1) * (a - b).natAbs := by
    have := Int.natAbs_dvd_natAbs.2 (Int.dvd_of_emod_eq_zero hm)
    rwa [Int.natAbs_mul, show ((k : Int) + 1).natAbs = k + 1 by omega] at this
  have hd2 := Nat.Coprime.dvd_of_dvd_mul_left hg hd
  rcases Nat.eq_zero_or_pos (a - b).natAbs with h0 | h0
  · omega
  · have := Nat.le_of_dvd h0 hd2; omega
theorem decR_set {k : Nat} {v : Int} (hS : PRL.contains S = true) (hl : xs.length ≤ 10) (hk0 : 0 < ks.length) (hk5 : ks.length ≤ 5) (hk : k < (codeL S ks ds d xs).length) (hv : inS S v = true) (hne : ¬ v = (codeL S ks ds d xs).getD k 0) : ¬ (decR S ks ds d ((codeL S ks ds d xs).set k v)).1 = 0 := by
  have hSr := prS hS
  have hlen := codeL_len (S := S) (ks := ks) (ds := ds) (d := d) (xs := xs)
  have hhl := headL_len (S := S) (ks := ks) (ds := ds) (d := d) (xs := xs)
  by_cases h0 : k = 0
  · subst h0
    rw [dec_8 (by rw [Gv.getD_set_eq (by omega)]; exact hne)]
    show ¬ (8 : Int) = 0
    decide
  · have hz : ((codeL S ks ds d xs).set k v).getD 0 0 = (ds.getD d 0 + (d : Int)) % (ks.length : Int) := by rw [Gv.getD_set_ne h0]; exact codeL_zero
    have hset : ((codeL S ks ds d xs).set k v).take (((codeL S ks ds d xs).set k v).length - 1) = (headL S ks ds d xs).set k v := by
      rw [List.length_set, List.take_set, codeL_take]
    rw [dec_11 hz]
    · show ¬ (11 : Int) = 0
      decide
    · rw [hset, List.length_set, List.length_set, sumN_set _ (Nat.le_refl _)]
      by_cases hkl : k = (codeL S ks ds d xs).length - 1
      · subst hkl
        rw [Gv.getD_set_eq (by omega), if_neg (by omega), Int.add_zero, ← codeL_last]
        exact hne
      · rw [Gv.getD_set_ne hkl, codeL_last, if_pos (by omega)]
        intro he
        apply hne
        have hke : (codeL S ks ds d xs).getD k 0 = (headL S ks ds d xs).getD k 0 := by
          unfold codeL
          rw [List.getD_eq_getElem?_getD, List.getElem?_append_left (by omega), ← List.getD_eq_getElem?_getD]
        rw [hke]
        have hin := headL_in hSr hk0 hk5 _ (getD_lt (l := headL S ks ds d xs) (d := 0) (i := k) (by omega))
        refine prime_free hS (k := k) (by omega) (inS_iff.1 hv) hin ?_
        have h3 := Int.emod_emod_of_dvd
        have h4 := Int.sub_emod (sumN (headL S ks ds d xs) (headL S ks ds d xs).length + ((k : Int) + 1) * (v - (headL S ks ds d xs).getD k 0)) (sumN (headL S ks ds d xs) (headL S ks ds d xs).length) S
        rw [← he, Int.sub_self, Int.zero_emod] at h4
        rw [show sumN (headL S ks ds d xs) (headL S ks ds d xs).length + ((k : Int) + 1) * (v - (headL S ks ds d xs).getD k 0) - sumN (headL S ks ds d xs) (headL S ks ds d xs).length = ((k : Int) + 1) * (v - (headL S ks ds d xs).getD k 0) by omega] at h4
        exact h4
theorem top_dec {k : Nat} {v e : Int} {p : List Int} (hS : PRL.contains S = true) (hl : xs.length ≤ 10) (hk0 : 0 < ks.length) (hk5 : ks.length ≤ 5) (hky : keyOk S (keyAt ks ds d).m (keyAt ks ds d).a (keyAt ks ds d).s = true) (hx : ∀ x ∈ xs, inS S x = true)
    (hk : k < (codeL S ks ds d xs).length) (hv : inS S v = true) (h : decR S ks ds d ((codeL S ks ds d xs).set k v) = (e, p)) : (e = 0 ↔ v = (codeL S ks ds d xs).getD k 0) ∧ (e = 0 → p = xs) := by
  by_cases hvk : v = (codeL S ks ds d xs).getD k 0
  · have hs : (codeL S ks ds d xs).set k v = codeL S ks ds d xs := by
      rw [hvk, List.getD_eq_getElem?_getD, List.getElem?_eq_getElem hk]
      exact List.set_getElem_self hk
    rw [hs, decR_code hS hky hx] at h
    injection h with h1 h2
    exact ⟨⟨fun _ => hvk, fun _ => h1.symm⟩, fun _ => h2.symm⟩
  · have := decR_set hS hl hk0 hk5 hk hv hvk
    rw [h] at this
    exact ⟨⟨fun h => absurd h this, fun h => absurd h hvk⟩, fun h => absurd h this⟩
end
/-- what a text of digits means -/
def meantI (N l : Nat) (t : List Int) : Int := if t.length = l then t.foldl (fun n x => n * (N : Int) + x) 0 else -1
theorem fold_snoc {N : Nat} {t : List Int} {k : Nat} (h : k < t.length) : (t.take k).foldl (fun n x => n * (N : Int) + x) 0 * (N : Int) + t.getD k 0 = (t.take (k + 1)).foldl (fun n x => n * (N : Int) + x) 0 := by
  rw [take_succ_getD h, List.foldl_append]; rfl
theorem meant_nth {N : Nat} (hN : 0 < N) : ∀ l n : Nat, n < N ^ l → (nthL N l n).foldl (fun n x => n * (N : Int) + x) 0 = (n : Int)
  | 0, n, h => by
    have : n = 0 := by simpa using h
    subst this; rfl
  | l + 1, n, h => by
    rw [nthL, List.foldl_append, meant_nth hN l (n / N) (by rw [Nat.pow_succ] at h; exact Nat.div_lt_of_lt_mul (by rw [Nat.mul_comm]; exact h))]
    show ((n / N : Nat) : Int) * (N : Int) + (n : Int) % (N : Int) = n
    have := Nat.div_add_mod n N
    rw [← Int.natCast_emod, ← Int.natCast_mul, ← Int.natCast_add]
    congr 1
    rw [Nat.mul_comm]; exact this
def candN (N l : Nat) (S : Int) (T : List (List Int)) : List Int := (T.map (meantI N l)).filter (fun n => decide (0 ≤ n) && decide (n < S))
theorem candN_nil (N l : Nat) (S : Int) : candN N l S [] = [] := rfl
theorem cand_take {N l : Nat} {S : Int} {L : List SV} {i : Nat} (hi : i < L.length) : candN N l S ((L.take (i + 1)).map (·.xs)) = candN N l S ((L.take i).map (·.xs)) ++ candN N l S [(L.getD i sv0).xs] := by
  rw [List.take_add_one, List.getElem?_eq_getElem hi, List.getD_eq_getElem?_getD, List.getElem?_eq_getElem hi]
  simp only [candN, Option.toList_some, Option.getD_some, List.map_append, List.filter_append, List.map_cons, List.map_nil]
theorem cand_yes {N l : Nat} {S : Int} {L : List SV} {i : Nat} {out : List Int} (hi : i < L.length) (h : out = candN N l S ((L.take i).map (·.xs))) (h0 : 0 ≤ meantI N l (L.getD i sv0).xs) (h1 : meantI N l (L.getD i sv0).xs < S) :
    out ++ [meantI N l (L.getD i sv0).xs] = candN N l S ((L.take (i + 1)).map (·.xs)) := by
  rw [cand_take hi, h]
  congr 1
  unfold candN
  rw [List.map_cons, List.map_nil, List.filter_cons_of_pos (by rw [Bool.and_eq_true, decide_eq_true_eq, decide_eq_true_eq]; exact ⟨h0, h1⟩)]; rfl
theorem cand_no {N l : Nat} {S : Int} {L : List SV} {i : Nat} {out : List Int} (hi : i < L.length) (h : out = candN N l S ((L.take i).map (·.xs))) (h0 : ¬ (0 ≤ meantI N l (L.getD i sv0).xs ∧ meantI N l (L.getD i sv0).xs < S)) :
    out = candN N l S ((L.take (i + 1)).map (·.xs)) := by
  rw [cand_take hi, h]
  have : candN N l S [(L.getD i sv0).xs] = [] := by
    unfold candN
    rw [List.map_cons, List.map_nil, List.filter_cons_of_neg (by simp only [Bool.and_eq_true, decide_eq_true_eq]; exact h0)]; rfl
  rw [this, List.append_nil]
theorem candN_len (N l : Nat) (S : Int) (T : List (List Int)) : (candN N l S T).length ≤ T.length := by
  unfold candN
  refine Nat.le_trans (List.length_filter_le _ _) ?_
  rw [List.length_map]; exact Nat.le_refl _
theorem candN_in {N l : Nat} {S : Int} {T : List (List Int)} : ∀ n ∈ candN N l S T, inS S n = true := by
  intro n hn
  have := (List.mem_filter.1 hn).2
  rw [inS_iff]
  simp only [Bool.and_eq_true, decide_eq_true_eq] at this
  omega
theorem candN_mem {c : List Sg} {l num : Nat} {S er : Int} {rd : Sg} (hc : 0 < c.length) (hn : (num : Int) < S) (hl : num < c.length ^ l) (hf : fe 1048576 (signs c (nthL c.length l num)) rd ≤ er) : (num : Int) ∈ candN c.length l S (texts c rd er l) := by
  refine List.mem_filter.2 ⟨List.mem_map.2 ⟨nthL c.length l num, mem_texts.2 ⟨by rw [nthL_len]; exact Nat.le_refl _, nthL_text hc _ _, hf⟩, ?_⟩, ?_⟩
  · unfold meantI
    rw [if_pos (nthL_len _ _ _), meant_nth hc l num hl]
  · rw [Bool.and_eq_true, decide_eq_true_eq, decide_eq_true_eq]; omega
theorem pow4 {N n : Nat} (hN : 3 ≤ N) (hn : N ^ n < 41) : n ≤ 3 := by
  rcases Nat.lt_or_ge n 4 with h | h
  · omega
  · have h1 : 3 ^ 4 ≤ N ^ n := Nat.le_trans (Nat.pow_le_pow_right (by decide) h) (Nat.pow_le_pow_left hN n)
    have : (3 : Nat) ^ 4 = 81 := by decide
    omega



end Go.Proofs.Ytfbjllabgkabkaa
