/- Contracts. -/
import Derived.Test.YtkcbgpilfegofaaF23
import Derived.Test.YtkcbgpilfegofaaF24
set_option linter.unusedVariables false
set_option linter.unusedSimpArgs false
namespace Go.Proofs.Ytkcbgpilfegofaa
open Go Go.RowKit Go.Gv Go.Fl

theorem ex_first {s r : Sg} (h : ¬ (s = [] ∧ r = [])) (hf : fe 1048576 s r < 1048576) : ∃ k : Nat, k < 6 ∧ good s r k = true ∧ ∀ j, j < k → good s r j = false := by
  cases hx : (List.range 6).find? (good s r) with
  | none =>
    rw [List.find?_eq_none] at hx
    exact (fe_good h hf (fun j hj => by
      have := hx j (List.mem_range.2 hj)
      simpa using this)).elim
  | some k =>
    rw [List.find?_range_eq_some] at hx
    obtain ⟨h1, h2, h3⟩ := hx
    exact ⟨k, by simpa using h2, h1, fun j hj => by have := h3 j hj; simpa using this⟩
theorem good_ok {s r : Sg} {k : Nat} (h : good s r k = true) : (stepR (k : Int) s r).2.2 = true := by
  unfold good at h
  rw [Bool.and_eq_true] at h
  exact h.1
theorem good_sum2 {s r : Sg} {k : Nat} (h : good s r k = true) : cost (k : Int) + fe 1048576 (stepR (k : Int) s r).1 (stepR (k : Int) s r).2.1 = fe 1048576 s r := by
  unfold good at h
  rw [Bool.and_eq_true, decide_eq_true_eq] at h
  exact h.2
theorem ex_doS : ∀ (L : Nat) (s r : Sg) (n : Int), s.length + r.length ≤ L → fe 1048576 s r < 1048576 → doS s r n (ex s r) = (n + fe 1048576 s r, true)
  | L, s, r, n, hL, hf => by
    by_cases h0 : s = [] ∧ r = []
    · obtain ⟨rfl, rfl⟩ := h0
      rw [ex_end, fe_nil, doS, Int.add_zero]; rfl
    · obtain ⟨k, hk, hg, hno⟩ := ex_first h0 hf
      have hd := stepR_dec (good_ok hg)
      have hs := good_sum2 hg
      have hc := cost_le (k : Int)
      rw [ex_step h0 hk hg hno, doS, if_pos (good_ok hg)]
      cases L with
      | zero => omega
      | succ L =>
        rw [ex_doS L _ _ _ (by omega) (by omega), ← hs, Int.add_assoc]
theorem lex_min : ∀ (xs : List Int) (s r : Sg) (n : Int), doS s r n xs = (n + fe 1048576 s r, true) → fe 1048576 s r < 1048576 → lexLt xs (ex s r) = false
  | [], s, r, n, h, hf => by
    unfold doS at h
    injection h with _ h2
    rw [Bool.and_eq_true, decide_eq_true_eq, decide_eq_true_eq] at h2
    rw [h2.1, h2.2]; rfl
  | x :: xs, s, r, n, h, hf => by
    unfold doS at h
    split at h
    · rename_i hs
      have h6 : 0 ≤ x ∧ x < 6 := by
        by_cases hx : 0 ≤ x ∧ x < 6
        · exact hx
        · have hn : stepTW x s = none := by
            unfold stepTW
            rw [if_neg (by omega), if_neg (by omega), if_neg (by omega), if_neg (by omega), if_neg (by omega), if_neg (by omega)]
          rw [stepR_none hn] at hs; cases hs
      obtain ⟨k, rfl⟩ : ∃ k : Nat, x = k := ⟨x.toNat, by omega⟩
      have hle := fe_le (doS_ex h)
      have hst := fe_step_le (s := s) (r := r) (k := k) (by omega) (show stepR (k : Int) s r = ((stepR (k : Int) s r).1, (stepR (k : Int) s r).2.1, true) by rw [← hs])
      have hc := cost_le (k : Int)
      have hg : good s r k = true := by
        unfold good
        rw [hs, Bool.true_and, decide_eq_true_eq]; omega
      have hd := stepR_dec hs
      have h0 : ¬ (s = [] ∧ r = []) := fun h => by rw [h.1, h.2] at hd; simp at hd
      obtain ⟨k0, hk0, hg0, hno⟩ := ex_first h0 hf
      rw [ex_step h0 hk0 hg0 hno, lexLt]
      have hk : k0 ≤ k := by
        rcases Nat.lt_or_ge k k0 with h1 | h1
        · have := hno k h1; rw [hg] at this; cases this
        · exact h1
      by_cases he : k0 = k
      · subst he
        rw [if_pos rfl]
        refine lex_min xs _ _ (n + cost (k0 : Int)) ?_ (by omega)
        rw [h]; congr 1; omega
      · rw [if_neg (by omega), decide_eq_false_iff_not]; omega
    · injection h with _ h2; cases h2
theorem prov_yes {s r : Sg} {xs : List Int} {er n : Int} (h : signsFault s r = 0) (hd : doS s r 0 xs = (n, true)) (hn : n ≤ er) : provB s r xs er = true := by
  unfold provB; rw [h, hd]; simp; exact hn
theorem doS_errs {s r : Sg} {xs : List Int} {n : Int} (h : signsFault s r = 0) (hd : doS s r 0 xs = (n, true)) : (errs s r).2 = 0 ∧ (errs s r).1 = fe 1048576 s r ∧ fe 1048576 s r ≤ n := by
  have := doS_ex hd
  rw [Int.sub_zero] at this
  exact errs_of_ex h this
theorem doS_none {s r : Sg} {xs : List Int} (h : signsFault s r = 0) (he : ¬ (errs s r).2 = 0) : (doS s r 0 xs).2 = false := by
  cases hx : (doS s r 0 xs).2 with
  | false => rfl
  | true => exact absurd (doS_errs h (n := (doS s r 0 xs).1) (by rw [← hx])).1 he
theorem exN_len' : ∀ (n : Nat) (s r : Sg), (exN n s r).length ≤ n
  | 0, s, r => Nat.le_refl _
  | n + 1, s, r => by
    unfold exN
    split
    · simp
    · split
      · rw [List.length_cons]; exact Nat.succ_le_succ (exN_len' n _ _)
      · simp
theorem exL_doS {s r : Sg} (h : signsFault s r = 0) (he : (errs s r).2 = 0) : doS s r 0 (exL s r) = ((errs s r).1, true) ∧ (exL s r).length ≤ 80 := by
  obtain ⟨h1, h2⟩ := errs_good h he
  have h4 := sf_zero h
  rw [exL, if_pos he, ex_doS _ s r 0 (Nat.le_refl _) h1, h2, Int.zero_add]
  refine ⟨rfl, ?_⟩
  have : (ex s r).length ≤ s.length + r.length := exN_len' _ _ _
  omega
theorem exL_lex {s r : Sg} {xs : List Int} {n : Int} (h : signsFault s r = 0) (he : (errs s r).2 = 0) (hd : doS s r 0 xs = (n, true)) (hn : n = (errs s r).1) : lexLt xs (exL s r) = false := by
  obtain ⟨h1, h2⟩ := errs_good h he
  rw [exL, if_pos he]
  exact lex_min xs s r 0 (by rw [hd, hn, h2, Int.zero_add]) h1



end Go.Proofs.Ytkcbgpilfegofaa
