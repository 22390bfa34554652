/- Contracts. -/
import Derived.Test.YtekkdhpgcilpdaaGreatM16
set_option linter.unusedVariables false
set_option linter.unusedSimpArgs false
namespace Go.Proofs.YtekkdhpgcilpdaaGreat
open Go Go.RowKit Go.Gv Go.Fl

theorem more_big {co : List Sg} {er : Int} {se : List Int} {sl : List SN} {rl : List RC} {q : RC} (hb : LgBig co er se sl rl) (hq : q.s.length ≤ 1048576) (hn : rl.length ≤ 1048576) : LgBig co er se sl (([] ++ rl) ++ ([⟨q.h, q.st, q.s⟩] : List RC)) := by
  obtain ⟨h1, h2, h3, h4, h5, h6⟩ := hb
  refine ⟨h1, h2, h3, h4, ?_, fun r hr => ?_⟩
  · rw [List.length_append, List.length_append, List.length_nil, List.length_singleton]; omega
  · rcases List.mem_append.1 hr with h | h
    · exact h6 r (by simpa using h)
    · have : r = ⟨q.h, q.st, q.s⟩ := by simpa using h
      rw [this]; show q.s.length ≤ 2097152; omega
theorem verd_b {l : Lg} (h : (verdW l).2 = 0 ↔ (leavW l).1 = []) : decide ((verdW l).2 = 0) = decide (((leavW l).1.length : Int) = 0) := by
  rw [decide_eq_decide, h, ← List.length_eq_zero_iff]; omega
section
variable {can can' : Nat → Int → Bool} {m k : Nat} {out out' : Nat → Bool} {a : List Int}
theorem all_take (h : a ∈ allF can m out (k + 1) []) (hc : ∀ r b, r < k → can r b = can' r b) (ho : ∀ r, r < k → out r = out' r) : a.take k ∈ allF can' m out' k [] := by
  have h1 : a.take k ∈ allF can m out k [] := by
    obtain ⟨_, h2, h3⟩ := mem_all.1 h
    have h2 : a.length = k + 1 := by simpa using h2
    refine mem_all.2 ⟨by simp, by rw [List.length_take]; simp; omega, fun r _ hr => ?_⟩
    have hr : r < k := by rw [List.length_take] at hr; omega
    have h4 := h3 r (Nat.zero_le _) (by omega)
    have e1 : (a.take k).getD r 0 = a.getD r 0 := by
      rw [List.getD_eq_getElem?_getD, List.getD_eq_getElem?_getD, List.getElem?_take, if_pos hr]
    have e2 : (a.take k).take r = a.take r := by rw [List.take_take, Nat.min_eq_left (by omega)]
    unfold okAt at h4 ⊢
    rw [e1, e2]; exact h4
  rw [all_can (can' := can') (fun r b _ hr => hc r b (by simpa using hr))] at h1
  rwa [all_out (out' := out') (fun r _ hr => ho r (by simpa using hr))] at h1
end
section
variable {l x : Lg} {more : RC} {r : Nat} {b : Int}
/-- x is l with one more record -/
def OneMore (l x : Lg) : Prop := x.co = l.co ∧ x.er = l.er ∧ x.se = l.se ∧ x.J = l.J ∧ ∃ more, x.R = l.R ++ [more]
theorem more_len (h : OneMore l x) : x.R.length = l.R.length + 1 := by
  obtain ⟨_, _, _, _, q, hR⟩ := h
  rw [hR, List.length_append]; rfl
theorem more_can (h : OneMore l x) (hr : r < l.R.length) : canB x r b = canB l r b := by
  obtain ⟨h1, h2, h3, h4, q, hR⟩ := h
  obtain ⟨co, er, se, J, R⟩ := l
  obtain ⟨co2, er2, se2, J2, R2⟩ := x
  dsimp only at h1 h2 h3 h4 hR hr
  subst h1 h2 h3 h4 hR
  have he : (R ++ [q]).getD r rcd0 = R.getD r rcd0 := by
    rw [List.getD_eq_getElem?_getD, List.getD_eq_getElem?_getD, List.getElem?_append_left hr]
  unfold canB
  dsimp only
  rw [he]; rfl
theorem more_take (h : OneMore l x) {a : List Int} (ha : a ∈ asgM x noB) : a.take l.R.length ∈ asgM l noB := by
  have hJ := h.2.2.2.1
  unfold asgM at ha ⊢
  rw [more_len h, hJ] at ha
  exact all_take ha (fun r b hr => more_can h hr) (fun _ _ => rfl)
theorem more_own (h : OneMore l x) (hr : r < l.R.length) (h1 : ownV x r = true) : ownV l r = true := by
  unfold ownV at h1 ⊢
  rw [poss_any (by have := more_len h; omega), List.any_eq_true] at h1
  rw [poss_any hr, List.any_eq_true]
  obtain ⟨a, ha, h2⟩ := h1
  refine ⟨a.take l.R.length, more_take h ha, ?_⟩
  rwa [List.getD_eq_getElem?_getD, List.getElem?_take, if_pos hr, ← List.getD_eq_getElem?_getD]
theorem more_fal (h : OneMore l x) (hr : r < l.R.length) (h1 : falV x r = true) : falV l r = true := by
  unfold falV at h1 ⊢
  rw [poss_any (by have := more_len h; omega), List.any_eq_true] at h1
  rw [poss_any hr, List.any_eq_true]
  obtain ⟨a, ha, h2⟩ := h1
  refine ⟨a.take l.R.length, more_take h ha, ?_⟩
  rwa [List.getD_eq_getElem?_getD, List.getElem?_take, if_pos hr, ← List.getD_eq_getElem?_getD]
theorem more_verd (h : OneMore l x) (hr : r < l.R.length) (hx : (ownV x r || falV x r) = true) (h3 : ¬ verdV l r = 3) : verdV x r = verdV l r := by
  cases ho : ownV l r with
  | true =>
    cases hf : falV l r with
    | true => exact absurd (verd_3 ho hf) h3
    | false =>
      have hf2 : falV x r = false := by
        cases q : falV x r with
        | false => rfl
        | true => rw [more_fal h hr q] at hf; cases hf
      rw [verd_1 ho hf, verd_1 (by rw [hf2, Bool.or_false] at hx; exact hx) hf2]
  | false =>
    have ho2 : ownV x r = false := by
      cases q : ownV x r with
      | false => rfl
      | true => rw [more_own h hr q] at ho; cases ho
    rw [verd_2 ho, verd_2 ho2]
end
section
variable {l x : Lg}
theorem leave_nil (hn : l.R.length ≤ 1000) : leaveM l = [] ↔ asgM l noB ≠ [] := by
  obtain ⟨s, h1, h2, h3, h4⟩ := leave_spec (Q := leavQ (canB l) l.J.length l.R.length) (n := l.R.length) leavQ_all
  have he : leaveM l = s := by unfold leaveM; rw [h1]; rfl
  rw [he]
  constructor
  · rintro rfl
    exact (leavQ_iff hn).1 h3
  · intro ha
    have h5 := h4 [] (ris_iff.2 ⟨List.Pairwise.nil, fun x hx => by simp at hx⟩) ((leavQ_iff hn).2 ha)
    rw [← Bool.not_eq_true, ltL_lex] at h5
    cases s with
    | nil => rfl
    | cons y t => exact absurd (.inl (by simp)) h5
theorem more_leave (h : OneMore l x) (hn : l.R.length ≤ 900) : (leaveM l).length ≤ (leaveM x).length := by
  have hx := more_len h
  obtain ⟨s, h1, h2, h3, h4⟩ := leave_spec (Q := leavQ (canB l) l.J.length l.R.length) (n := l.R.length) leavQ_all
  obtain ⟨t, g1, g2, g3, _⟩ := leave_spec (Q := leavQ (canB x) x.J.length x.R.length) (n := x.R.length) leavQ_all
  have e1 : leaveM l = s := by unfold leaveM; rw [h1]; rfl
  have e2 : leaveM x = t := by unfold leaveM; rw [g1]; rfl
  rw [e1, e2]
  have g3 := (leavQ_iff (by omega)).1 g3
  obtain ⟨a, ha⟩ := List.exists_mem_of_ne_nil _ g3
  rw [hx, h.2.2.2.1] at ha
  have g2 := ris_iff.1 g2
  have hf : ∀ r : Nat, r < l.R.length → outL t r = outL (t.filter (fun y => decide (y < (l.R.length : Int)))) r := fun r hr => by
    unfold outL
    rw [Bool.eq_iff_iff, has_iff, has_iff, List.mem_filter]
    exact ⟨fun h5 => ⟨h5, decide_eq_true (by omega)⟩, fun h5 => h5.1⟩
  have hb := all_take ha (fun r b hr => more_can h hr) hf
  have h5 := h4 (t.filter (fun y => decide (y < (l.R.length : Int)))) (ris_iff.2 ⟨g2.1.filter _, fun y hy => by
    obtain ⟨h6, h7⟩ := List.mem_filter.1 hy
    have := g2.2 y h6
    have := of_decide_eq_true h7
    omega⟩) ((leavQ_iff (by omega)).2 (List.ne_nil_of_mem hb))
  rw [← Bool.not_eq_true, ltL_lex] at h5
  have h6 := List.length_filter_le (fun y => decide (y < (l.R.length : Int))) t
  omega
theorem verd_0 (h0 : faultM l = 0) : (verdW l).2 = 0 ↔ leaveM l = [] := by
  have hr := (lg_ok h0).2.2.1
  rw [leave_nil (by omega)]
  constructor
  · exact fun h => (vd_ok h0 h).2.1
  · intro h
    by_cases h1 : (verdW l).2 = 0
    · exact h1
    · have h2 := (vd_err h0 h1).2
      rw [(asg_some h0 h).1] at h2
      have h3 : (0 : Int) = 11 := congrArg Prod.snd h2
      omega
end



end Go.Proofs.YtekkdhpgcilpdaaGreat
