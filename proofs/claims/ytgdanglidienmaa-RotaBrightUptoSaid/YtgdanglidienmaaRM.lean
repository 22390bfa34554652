/- Contracts. -/
import Derived.Test.YtgdanglidienmaaR22
import Derived.Test.YtgdanglidienmaaRK
set_option linter.unusedVariables false
set_option linter.unusedSimpArgs false
namespace Go.Proofs.Ytgdanglidienmaa
open Go Go.RowKit Go.Gv Go.Fl

section
variable {fl : Int} {G : List RG}
theorem polN_inv (hok : mfault fl G = 0) : ∀ k : Nat, k ≤ 2 ^ G.length - 1 → (polN fl G k = bitsL (2 ^ G.length - 1) ∨ staysB fl G (polN fl G k) = true) ∧ risB (polN fl G k) (G.length : Int) = true ∧ ltL (bitsL (2 ^ G.length - 1)) (polN fl G k) = false ∧ ∀ j, j < k → staysB fl G (bitsL j) = true → ltL (bitsL j) (polN fl G k) = false
  | 0, _ => by
    obtain ⟨hf, ⟨hg0, hg8⟩, hrg⟩ := mf_ok hok
    have hlt : 2 ^ G.length - 1 < 2 ^ G.length := by have := Nat.two_pow_pos G.length; omega
    exact ⟨.inl rfl, bits_ris hlt (by omega), ltL_irrefl _, fun j hj => absurd hj (Nat.not_lt_zero _)⟩
  | k + 1, hk => by
    obtain ⟨hf, ⟨hg0, hg8⟩, hrg⟩ := mf_ok hok
    obtain ⟨h1, h2, h3, h4⟩ := polN_inv hok k (by omega)
    have hkl : k < 2 ^ G.length := by omega
    rw [polN_succ]
    unfold polS
    by_cases h : (ltL (bitsL k) (polN fl G k) && staysB fl G (bitsL k)) = true
    · rw [if_pos h]
      rw [Bool.and_eq_true] at h
      have hbet : ∀ x, ltL x (polN fl G k) = false → ltL x (bitsL k) = false := fun x hx => by
        rw [← Bool.not_eq_true]
        intro h5
        rw [ltL_trans h5 h.1] at hx; cases hx
      refine ⟨.inr h.2, bits_ris hkl (by omega), hbet _ h3, fun j hj hcj => ?_⟩
      rcases Nat.lt_succ_iff_lt_or_eq.1 hj with h5 | rfl
      · exact hbet _ (h4 j h5 hcj)
      · exact ltL_irrefl _
    · rw [if_neg h]
      refine ⟨h1, h2, h3, fun j hj hcj => ?_⟩
      rcases Nat.lt_succ_iff_lt_or_eq.1 hj with h5 | rfl
      · exact h4 j h5 hcj
      · rw [hcj, Bool.and_true] at h; simpa using h
/-- the best polishing by the reference is the best one -/
theorem polN_eq (hok : mfault fl G = 0) : (staysB fl G (polN fl G (2 ^ G.length - 1)) = false ∧ polishM fl G = (10, [])) ∨ (staysB fl G (polN fl G (2 ^ G.length - 1)) = true ∧ polishM fl G = (0, polN fl G (2 ^ G.length - 1))) := by
  obtain ⟨hf, ⟨hg0, hg8⟩, hrg⟩ := mf_ok hok
  obtain ⟨h1, h2, h3, h4⟩ := polN_inv hok (2 ^ G.length - 1) (Nat.le_refl _)
  cases hs : staysB fl G (polN fl G (2 ^ G.length - 1)) with
  | false =>
    left
    refine ⟨rfl, ?_⟩
    rcases polish_spec hok with ⟨h5, _⟩ | ⟨l, _, h6, h7, _⟩
    · exact h5
    · rcases h1 with h1 | h1
      · have := stays_mono (ys := bitsL (2 ^ G.length - 1)) hrg (Int.le_refl fl) (fun i hi => by rw [bits_all (by omega)]; exact upTo_mem.2 ((ris_iff.1 h6).2 i hi)) h7
        rw [← h1, hs] at this; cases this
      · rw [hs] at h1; cases h1
  | true =>
    right
    refine ⟨rfl, ?_⟩
    rcases polish_spec hok with ⟨_, h5⟩ | ⟨l, h5, h6, h7, h8⟩
    · rw [h5 _ h2] at hs; cases hs
    · rw [h5]
      congr 1
      have h9 := h8 _ h2 hs
      obtain ⟨m, hm, he⟩ := bits_surj (by omega) h6
      have h10 : ltL l (polN fl G (2 ^ G.length - 1)) = false := by
        rcases Nat.lt_or_ge m (2 ^ G.length - 1) with h11 | h11
        · rw [← he]; exact h4 m h11 (by rw [he]; exact h7)
        · rw [← he, show m = 2 ^ G.length - 1 by omega]; exact h3
      rcases ltL_total l (polN fl G (2 ^ G.length - 1)) with h | h | h
      · rw [h] at h10; cases h10
      · exact h
      · rw [h] at h9; cases h9
theorem bright_lo {xs : List Int} {k : Nat} (h : mfault fl G = 0) (h2 : risB xs (G.length : Int) = true) (hk : k < G.length) : ((brightM fl G xs).2.getD k rg0).lo = (dimsT xs (G.map (pkB true)) G.length).getD k 0 := by
  rw [br_0 h h2, rgL_at hk, dims_eq, pk_hi]
theorem bright_hi {xs : List Int} {k : Nat} (h : mfault fl G = 0) (h2 : risB xs (G.length : Int) = true) (hk : k < G.length) : ((brightM fl G xs).2.getD k rg0).hi = (dimsT xs (G.map (pkB false)) G.length).getD k 0 := by
  rw [br_0 h h2, rgL_at hk]
  show (dimsM (fun x => x.lo) xs G).getD k 0 = _
  rw [dims_eq]; rfl
theorem bright_len {xs : List Int} (h : mfault fl G = 0) (h2 : risB xs (G.length : Int) = true) : (brightM fl G xs).2.length = G.length := by rw [br_0 h h2, rgL_len]
theorem polN_len (hok : mfault fl G = 0) : (polN fl G (2 ^ G.length - 1)).length ≤ 20 := by
  obtain ⟨_, ⟨hg0, hg8⟩, _⟩ := mf_ok hok
  have := ris_len (polN_inv hok _ (Nat.le_refl _)).2.1
  omega
theorem polN_no (hok : mfault fl G = 0) (h : staysB fl G (polN fl G (2 ^ G.length - 1)) = false) : polishM fl G = (10, []) := by
  rcases polN_eq hok with ⟨_, h2⟩ | ⟨h1, _⟩
  · exact h2
  · rw [h] at h1; cases h1
theorem polN_yes (hok : mfault fl G = 0) (h : staysB fl G (polN fl G (2 ^ G.length - 1)) = true) : polishM fl G = (0, polN fl G (2 ^ G.length - 1)) := by
  rcases polN_eq hok with ⟨h1, _⟩ | ⟨_, h2⟩
  · rw [h] at h1; cases h1
  · exact h2
end



end Go.Proofs.Ytgdanglidienmaa
