/- Contracts. -/
import Derived.Test.YtgdanglidienmaaF8
set_option linter.unusedVariables false
set_option linter.unusedSimpArgs false
namespace Go.Proofs.Ytgdanglidienmaa
open Go Go.RowKit Go.Gv Go.Fl

theorem catL_le {L : List SV} (h : ∀ s ∈ L, s.xs.length ≤ 2097152) : (catL L).length ≤ L.length * 2097152 := by
  unfold catL
  induction L with
  | nil => simp
  | cons s l ih =>
    have h1 := h s (by simp)
    have h2 := ih (fun x hx => h x (by simp [hx]))
    simp only [List.map_cons, List.flatten_cons, List.length_append, List.length_cons]
    omega
def repAll (T : List (List Int)) : Int × Int × Int := if listFault T = 0 then ((rep T 5).1, (rep T 5).2, 0) else (0, 0, listFault T)
theorem rep_err {T : List (List Int)} {n : Int} (h : listFault T = n) (h0 : n ≠ 0) : repAll T = (0, 0, n) := by unfold repAll; rw [h, if_neg h0]
theorem rep_ok {T : List (List Int)} {m f : Nat} (h : listFault T = 0) (hm : m < 6) (hf : f < 5) (hd : decidesB T f m = true) (hno : ∀ i, i < m * 5 + f → decidesB T (i % 5) (i / 5) = false) : repAll T = ((f : Int), (m : Int), 0) := by
  unfold repAll; rw [h, if_pos rfl, rep5 hm hf hd hno]
theorem all5 {L : List SV} (h : L.all (fun s => decide ((s.xs.length : Int) ≤ 5)) = true) : (L.map (·.xs)).all (fun t => decide (t.length ≤ 5)) = true := by
  rw [List.all_map]; rw [List.all_eq_true] at h ⊢
  intro s hs; have := h s hs
  simp only [decide_eq_true_eq, Function.comp] at this ⊢; omega
theorem allc {L : List SV} (h : (catL L).all (fun n => decide (0 ≤ n) && decide (n ≤ 5)) = true) : (L.map (·.xs)).all (fun t => t.all (fun n => decide (0 ≤ n) && decide (n ≤ 5))) = true := by
  rw [catL, List.all_flatten] at h; exact h
theorem lf_three (L : List SV) (h : 64 < L.length ∨ L.all (fun s => decide ((s.xs.length : Int) ≤ 5)) = false) : listFault (L.map (·.xs)) = 3 := by
  unfold listFault
  rw [if_pos]
  rcases h with h | h
  · left; rw [List.length_map]; exact h
  · right
    rw [List.all_eq_false] at h
    obtain ⟨s, hs, hl⟩ := h
    rw [List.all_eq_false]
    exact ⟨s.xs, List.mem_map.2 ⟨s, hs, rfl⟩, by simp only [decide_eq_true_eq] at hl ⊢; omega⟩
theorem lf_two (L : List SV) (h64 : L.length ≤ 64) (h5 : (L.map (·.xs)).all (fun t => decide (t.length ≤ 5)) = true) (h : L.length = 0 ∨ (catL L).all (fun n => decide (0 ≤ n) && decide (n ≤ 5)) = false) : listFault (L.map (·.xs)) = 2 := by
  unfold listFault
  rw [if_neg (lf_no3 h64 h5), if_pos]
  rcases h with h | h
  · left; rw [List.eq_nil_of_length_eq_zero h]; rfl
  · right; rw [catL, List.all_flatten] at h; exact h
theorem pfx_short {s p : Sg} (h : (s.length : Int) < p.length) : hasPfx s p = false := by
  unfold hasPfx
  rw [decide_eq_false_iff_not]
  intro he; have := congrArg List.length he
  rw [List.length_take] at this; omega
theorem pfx_no {s p : Sg} {n : Nat} (h : ¬ s.take n = p) (hn : n = p.length := by rfl) : hasPfx s p = false := by unfold hasPfx; rw [← hn]; exact decide_eq_false h
theorem pfx_yes {s p : Sg} {n : Nat} (h : s.take n = p) (hn : n = p.length := by rfl) : hasPfx s p = true := by unfold hasPfx; rw [← hn]; exact decide_eq_true h
theorem stepR_none {k : Int} {s r : Sg} (h : stepTW k s = none) : stepR k s r = ([], [], false) := by unfold stepR; rw [h]
theorem stepR_no {k : Int} {s r : Sg} {t : Nat} {wr : Sg} (h : stepTW k s = some (t, wr)) (hp : hasPfx r wr = false) : stepR k s r = ([], [], false) := by unfold stepR; rw [h]; simp [hp]
theorem stepR_yes {k : Int} {s r : Sg} {t : Nat} {wr : Sg} (h : stepTW k s = some (t, wr)) (hp : hasPfx r wr = true) : stepR k s r = (s.drop t, r.drop wr.length, true) := by unfold stepR; rw [h]; simp [hp]
def doS (s r : Sg) (n : Int) : List Int → Int × Bool
  | [] => (n, decide (s = []) && decide (r = []))
  | k :: ks => if (stepR k s r).2.2 = true then doS (stepR k s r).1 (stepR k s r).2.1 (n + cost k) ks else (0, false)
theorem cost_le (k : Int) : 0 ≤ cost k ∧ cost k ≤ 1 := by unfold cost; split <;> omega
theorem stepR_len (k : Int) (s r : Sg) : (stepR k s r).1.length ≤ s.length ∧ (stepR k s r).2.1.length ≤ r.length := by
  unfold stepR
  cases stepTW k s with
  | none => simp
  | some p =>
    obtain ⟨t, wr⟩ := p
    simp only
    split
    · simp only [List.length_drop]; omega
    · simp
theorem doS_step {s r : Sg} {n : Int} {xs : List Int} {k : Nat} (hk : k < xs.length) (h : (stepR (xs.getD k 0) s r).2.2 = true) : doS s r n (xs.drop k) = doS (stepR (xs.getD k 0) s r).1 (stepR (xs.getD k 0) s r).2.1 (n + cost (xs.getD k 0)) (xs.drop (k + 1)) := by
  rw [drop_getD (d := 0) hk, doS, if_pos h]
theorem doS_no {s r : Sg} {n : Int} {xs : List Int} {k : Nat} (hk : k < xs.length) (h : (stepR (xs.getD k 0) s r).2.2 = false) : doS s r n (xs.drop k) = (0, false) := by
  rw [drop_getD (d := 0) hk, doS, if_neg (by rw [h]; exact Bool.false_ne_true)]
theorem doS_end {s r : Sg} {n : Int} {xs : List Int} {k : Nat} (hk : xs.length ≤ k) : doS s r n (xs.drop k) = (n, decide (s = []) && decide (r = [])) := by
  rw [List.drop_eq_nil_of_le hk, doS]



end Go.Proofs.Ytgdanglidienmaa
