/- Contracts. -/
import Derived.Test.YtekkdhpgcilpdaaGreatF12
import Derived.Test.YtekkdhpgcilpdaaGreatF14
set_option linter.unusedVariables false
set_option linter.unusedSimpArgs false
namespace Go.Proofs.YtekkdhpgcilpdaaGreat
open Go Go.RowKit Go.Gv Go.Fl

def good (s r : Sg) (k : Nat) : Bool := (stepR (k : Int) s r).2.2 && decide (cost (k : Int) + fe 1048576 (stepR (k : Int) s r).1 (stepR (k : Int) s r).2.1 = fe 1048576 s r)
theorem good_dec {s r : Sg} {k : Nat} (h : good s r k = true) : (stepR (k : Int) s r).1.length + (stepR (k : Int) s r).2.1.length < s.length + r.length := by
  unfold good at h
  rw [Bool.and_eq_true] at h
  exact stepR_dec h.1
theorem feA_good {s r : Sg} : ∀ k : Nat, k ≤ 6 → (∀ j : Nat, j < k → (stepR (j : Int) s r).2.2 = true → cost (j : Int) + fe 1048576 (stepR (j : Int) s r).1 (stepR (j : Int) s r).2.1 ≠ feA 1048576 k s r) → feA 1048576 k s r = start0 1048576 s r
  | 0, _, _ => rfl
  | k + 1, hk, h => by
    rw [feA_succ (by omega)] at h ⊢
    unfold stepMin at h ⊢
    by_cases hs : (stepR (k : Int) s r).2.2 = true
    · rw [if_pos hs] at h ⊢
      have h1 := h k (by omega) hs
      have hm : min (feA 1048576 k s r) (cost (k : Int) + fe 1048576 (stepR (k : Int) s r).1 (stepR (k : Int) s r).2.1) = feA 1048576 k s r := by omega
      rw [hm] at h ⊢
      exact feA_good k (by omega) (fun j hj hjs => h j (by omega) hjs)
    · rw [if_neg hs] at h ⊢
      exact feA_good k (by omega) (fun j hj hjs => h j (by omega) hjs)
theorem fe_good {s r : Sg} (h : ¬ (s = [] ∧ r = [])) (hf : fe 1048576 s r < 1048576) (hno : ∀ j : Nat, j < 6 → good s r j = false) : False := by
  have h6 := fe_six (F := 1048576) s r
  have := feA_good (s := s) (r := r) 6 (Nat.le_refl _) (fun j hj hs he => by
    have hg := hno j hj
    unfold good at hg
    rw [hs, Bool.true_and, decide_eq_false_iff_not] at hg
    exact hg (by rw [he, h6]))
  rw [h6, start0, if_neg h] at this
  omega
theorem good_of {s r a b : Sg} {k : Nat} (hst : stepR (k : Int) s r = (a, b, true)) (he : cost (k : Int) + fe 1048576 a b = fe 1048576 s r) : good s r k = true := by
  unfold good; rw [hst]; simp [he]
theorem good_not {s r a b : Sg} {k : Nat} (hst : stepR (k : Int) s r = (a, b, true)) (he : ¬ cost (k : Int) + fe 1048576 a b = fe 1048576 s r) : good s r k = false := by
  unfold good; rw [hst]; simp [he]
theorem good_no {s r : Sg} {k : Nat} (h : (stepR (k : Int) s r).2.2 = false) : good s r k = false := by
  unfold good; rw [h, Bool.false_and]
theorem good_lt {s r a b : Sg} {k : Nat} (h : good s r k = true) (hst : stepR (k : Int) s r = (a, b, true)) (hf : fe 1048576 s r < 1048576) : fe 1048576 a b < 1048576 := by
  unfold good at h
  rw [hst] at h
  have h1 : cost (k : Int) + fe 1048576 a b = fe 1048576 s r := by simpa using h
  have := cost_le (k : Int)
  omega

/-- one step: what it takes, what it writes, its errors -/
def Pc (t wr : Sg) (c : Int) : Prop :=
  (∃ x, t = [x] ∧ wr = [x] ∧ c = 0) ∨ (∃ x : UInt8, x ≠ 32 ∧ t = [x] ∧ wr = [] ∧ c = 1) ∨ (t = [45] ∧ wr = [46, 46] ∧ c = 1) ∨ (t = [46, 46] ∧ wr = [45] ∧ c = 1) ∨ (t = [32] ∧ wr = [] ∧ c = 1) ∨ (t = [] ∧ wr = [32] ∧ c = 1)
inductive Ex : Sg → Sg → Int → Prop
  | nil : Ex [] [] 0
  | cons {t wr s r : Sg} {c n : Int} (h : Pc t wr c) (h' : Ex s r n) : Ex (t ++ s) (wr ++ r) (c + n)
theorem pfx_append (wr r : Sg) : hasPfx (wr ++ r) wr = true := by unfold hasPfx; rw [List.take_left]; simp
theorem pc_step {t wr s r : Sg} {c : Int} (h : Pc t wr c) : ∃ k : Nat, k < 6 ∧ stepR (k : Int) (t ++ s) (wr ++ r) = (s, r, true) ∧ cost (k : Int) = c := by
  have key : ∀ k : Nat, stepTW (k : Int) (t ++ s) = some (t.length, wr) → stepR (k : Int) (t ++ s) (wr ++ r) = (s, r, true) := fun k hk => by
    rw [stepR_yes hk (pfx_append wr r), List.drop_left, List.drop_left]
  rcases h with ⟨x, rfl, rfl, rfl⟩ | ⟨x, hx, rfl, rfl, rfl⟩ | ⟨rfl, rfl, rfl⟩ | ⟨rfl, rfl, rfl⟩ | ⟨rfl, rfl, rfl⟩ | ⟨rfl, rfl, rfl⟩
  · exact ⟨0, by decide, key 0 (by simp [stepTW]), rfl⟩
  · exact ⟨1, by decide, key 1 (by simp [stepTW, hx]), rfl⟩
  · exact ⟨2, by decide, key 2 (by simp [stepTW]), rfl⟩
  · exact ⟨3, by decide, key 3 (by simp [stepTW]), rfl⟩
  · exact ⟨4, by decide, key 4 (by simp [stepTW]), rfl⟩
  · exact ⟨5, by decide, key 5 (by simp [stepTW]), rfl⟩
theorem head_take {s : Sg} (h : s ≠ []) : s = [s.getD 0 0] ++ s.drop 1 := by
  cases s with
  | nil => exact absurd rfl h
  | cons x l => rfl
theorem step_pc {k : Int} {s r a b : Sg} (h : stepR k s r = (a, b, true)) : ∃ t wr, Pc t wr (cost k) ∧ s = t ++ a ∧ r = wr ++ b := by
  cases hw : stepTW k s with
  | none => rw [stepR_none hw] at h; cases h
  | some p =>
    obtain ⟨t, wr⟩ := p
    cases hp : hasPfx r wr with
    | false => rw [stepR_no hw hp] at h; cases h
    | true =>
      rw [stepR_yes hw hp] at h
      injection h with h1 h2
      injection h2 with h2 _
      subst h1; subst h2
      have hr : r = wr ++ r.drop wr.length := by
        have := of_decide_eq_true hp
        conv => lhs; rw [← List.take_append_drop wr.length r, this]
      have hpc : Pc (s.take t) wr (cost k) := by
        unfold stepTW at hw
        split at hw
        · rename_i hk; subst hk
          split at hw
          · cases hw
          · rename_i hs
            injection hw with hw; injection hw with h1 h2; subst h1; subst h2
            left
            obtain ⟨x, l, rfl⟩ := List.exists_cons_of_ne_nil hs
            exact ⟨x, rfl, rfl, rfl⟩
        · rename_i hk0
          have hc : cost k = 1 := by unfold cost; rw [if_neg hk0]
          rw [hc]
          split at hw
          · split at hw
            · cases hw
            · rename_i hs
              injection hw with hw; injection hw with h1 h2; subst h1; subst h2
              right; left
              have hs1 : s ≠ [] := fun h => hs (.inl h)
              obtain ⟨x, l, rfl⟩ := List.exists_cons_of_ne_nil hs1
              exact ⟨x, fun h => hs (.inr h), rfl, rfl, rfl⟩
          · split at hw
            · split at hw
              · cases hw
              · rename_i hs
                injection hw with hw; injection hw with h1 h2; subst h1; subst h2
                right; right; left
                have hs1 : s ≠ [] := fun h => hs (.inl h)
                obtain ⟨x, l, rfl⟩ := List.exists_cons_of_ne_nil hs1
                have hx : x = 45 := by
                  by_cases hx : x = 45
                  · exact hx
                  · exact absurd (.inr hx) hs
                subst hx; exact ⟨rfl, rfl, rfl⟩
            · split at hw
              · split at hw
                · cases hw
                · rename_i hs
                  injection hw with hw; injection hw with h1 h2; subst h1; subst h2
                  right; right; right; left
                  refine ⟨?_, rfl, rfl⟩
                  by_cases h2 : s.take 2 = [46, 46]
                  · exact h2
                  · exact absurd (.inr h2) hs
              · split at hw
                · split at hw
                  · cases hw
                  · rename_i hs
                    injection hw with hw; injection hw with h1 h2; subst h1; subst h2
                    right; right; right; right; left
                    have hs1 : s ≠ [] := fun h => hs (.inl h)
                    obtain ⟨x, l, rfl⟩ := List.exists_cons_of_ne_nil hs1
                    have hx : x = 32 := by
                      by_cases hx : x = 32
                      · exact hx
                      · exact absurd (.inr hx) hs
                    subst hx; exact ⟨rfl, rfl, rfl⟩
                · split at hw
                  · injection hw with hw; injection hw with h1 h2; subst h1; subst h2
                    right; right; right; right; right
                    exact ⟨rfl, rfl, rfl⟩
                  · cases hw
      exact ⟨s.take t, wr, hpc, (List.take_append_drop t s).symm, hr⟩
theorem feA_anti {s r : Sg} {j k : Nat} (h : j ≤ k) (hk : k ≤ 6) : feA 1048576 k s r ≤ feA 1048576 j s r := by
  induction h with
  | refl => exact Int.le_refl _
  | step h ih =>
    refine Int.le_trans ?_ (ih (by omega))
    rw [feA_succ (by omega)]
    unfold stepMin
    split <;> omega
theorem fe_step_le {s r a b : Sg} {k : Nat} (hk : k < 6) (h : stepR (k : Int) s r = (a, b, true)) : fe 1048576 s r ≤ cost (k : Int) + fe 1048576 a b := by
  have h1 := fe_eq_step (F := 1048576) h hk
  have h2 := feA_anti (s := s) (r := r) (show k + 1 ≤ 6 by omega) (Nat.le_refl _)
  rw [fe_six] at h2
  omega
theorem fe_nil : fe 1048576 [] [] = 0 := rfl
theorem fe_le {s r : Sg} {n : Int} (h : Ex s r n) : fe 1048576 s r ≤ n := by
  induction h with
  | nil => rw [fe_nil]; omega
  | @cons t wr s r c n hp h' ih =>
    obtain ⟨k, hk, hst, hc⟩ := pc_step (s := s) (r := r) hp
    have := fe_step_le hk hst
    omega
theorem ex_of : ∀ (L : Nat) (s r : Sg), s.length + r.length ≤ L → fe 1048576 s r < 1048576 → Ex s r (fe 1048576 s r)
  | L, s, r, hL, hf => by
    by_cases h0 : s = [] ∧ r = []
    · obtain ⟨rfl, rfl⟩ := h0
      rw [fe_nil]; exact .nil
    · have hex : ∃ j : Nat, j < 6 ∧ good s r j = true := by
        by_cases hall : ∀ j : Nat, j < 6 → good s r j = false
        · exact (fe_good h0 hf hall).elim
        · obtain ⟨j, hj⟩ := Classical.not_forall.1 hall
          obtain ⟨hj6, hj⟩ := Classical.not_imp.1 hj
          exact ⟨j, hj6, by simpa using hj⟩
      obtain ⟨j, hj6, hg⟩ := hex
      have hd := good_dec hg
      have hg' := hg
      unfold good at hg'
      rw [Bool.and_eq_true, decide_eq_true_eq] at hg'
      have hst : stepR (j : Int) s r = ((stepR (j : Int) s r).1, (stepR (j : Int) s r).2.1, true) := by rw [← hg'.1]
      obtain ⟨t, wr, hp, hs, hr⟩ := step_pc hst
      have hlt := good_lt hg hst hf
      match L with
      | 0 => omega
      | L + 1 =>
        have ih := ex_of L (stepR (j : Int) s r).1 (stepR (j : Int) s r).2.1 (by omega) hlt
        have := Ex.cons hp ih
        rw [← hs, ← hr, hg'.2] at this
        exact this
theorem ex_fe {s r : Sg} (h : fe 1048576 s r < 1048576) : Ex s r (fe 1048576 s r) := ex_of _ s r (Nat.le_refl _) h
theorem ex_refl : ∀ s : Sg, Ex s s 0
  | [] => .nil
  | x :: s => by
    have := Ex.cons (t := [x]) (wr := [x]) (c := 0) (.inl ⟨x, rfl, rfl, rfl⟩) (ex_refl s)
    exact this
theorem ex_one {t wr : Sg} {c : Int} (h : Pc t wr c) : Ex t wr c := by
  have := Ex.cons h .nil
  rwa [List.append_nil, List.append_nil, Int.add_zero] at this
theorem ex_append {s r s' r' : Sg} {n n' : Int} (h : Ex s r n) (h' : Ex s' r' n') : Ex (s ++ s') (r ++ r') (n + n') := by
  induction h with
  | nil => simpa using h'
  | @cons t wr s r c n hp _ ih =>
    have := Ex.cons hp ih
    rw [List.append_assoc, List.append_assoc, Int.add_assoc]
    exact this
theorem pc_rev {t wr : Sg} {c : Int} (h : Pc t wr c) : Pc t.reverse wr.reverse c := by
  rcases h with ⟨x, rfl, rfl, rfl⟩ | ⟨x, hx, rfl, rfl, rfl⟩ | ⟨rfl, rfl, rfl⟩ | ⟨rfl, rfl, rfl⟩ | ⟨rfl, rfl, rfl⟩ | ⟨rfl, rfl, rfl⟩
  · exact .inl ⟨x, rfl, rfl, rfl⟩
  · exact .inr (.inl ⟨x, hx, rfl, rfl, rfl⟩)
  · exact .inr (.inr (.inl ⟨rfl, rfl, rfl⟩))
  · exact .inr (.inr (.inr (.inl ⟨rfl, rfl, rfl⟩)))
  · exact .inr (.inr (.inr (.inr (.inl ⟨rfl, rfl, rfl⟩))))
  · exact .inr (.inr (.inr (.inr (.inr ⟨rfl, rfl, rfl⟩))))
theorem ex_rev {s r : Sg} {n : Int} (h : Ex s r n) : Ex s.reverse r.reverse n := by
  induction h with
  | nil => exact .nil
  | @cons t wr s r c n hp _ ih =>
    have := ex_append ih (ex_one (pc_rev hp))
    rw [List.reverse_append, List.reverse_append, Int.add_comm]
    exact this
theorem pc_facts {t wr : Sg} {c : Int} (h : Pc t wr c) : 0 ≤ c ∧ (c = 0 → t = wr) ∧ (t.length : Int) - wr.length ≤ c ∧ (wr.length : Int) - t.length ≤ c ∧ c ≤ t.length + wr.length := by
  rcases h with ⟨x, rfl, rfl, rfl⟩ | ⟨x, hx, rfl, rfl, rfl⟩ | ⟨rfl, rfl, rfl⟩ | ⟨rfl, rfl, rfl⟩ | ⟨rfl, rfl, rfl⟩ | ⟨rfl, rfl, rfl⟩ <;> simp
theorem ex_facts {s r : Sg} {n : Int} (h : Ex s r n) : 0 ≤ n ∧ (n = 0 → s = r) ∧ (s.length : Int) - r.length ≤ n ∧ (r.length : Int) - s.length ≤ n ∧ n ≤ s.length + r.length := by
  induction h with
  | nil => simp
  | @cons t wr s r c n hp _ ih =>
    have := pc_facts hp
    obtain ⟨i1, i2, i3, i4, i5⟩ := ih
    obtain ⟨p1, p2, p3, p4, p5⟩ := this
    refine ⟨by omega, fun h => by rw [p2 (by omega), i2 (by omega)], ?_, ?_, ?_⟩ <;> (simp only [List.length_append]; omega)
theorem fe_rev (s r : Sg) : fe 1048576 s.reverse r.reverse = fe 1048576 s r := by
  have key : ∀ s r : Sg, fe 1048576 s r < 1048576 → fe 1048576 s.reverse r.reverse ≤ fe 1048576 s r := fun s r h => fe_le (ex_rev (ex_fe h))
  have h1 := fe_bounds (F := 1048576) (by decide) s r
  have h2 := fe_bounds (F := 1048576) (by decide) s.reverse r.reverse
  have h3 := key s r
  have h4 := key s.reverse r.reverse
  rw [List.reverse_reverse, List.reverse_reverse] at h4
  omega
theorem errs_eq {s r : Sg} (h : signsFault s r = 0) : errs s r = if 1048576 ≤ fe 1048576 s r then (0, 11) else (fe 1048576 s r, 0) := by
  unfold errs; rw [if_neg (by simpa using h)]
theorem errs_two {s r : Sg} (h : signsFault s r = 0) : (errs s r).2 = 0 ∨ (errs s r).2 = 11 := by
  rw [errs_eq h]; split
  · exact .inr rfl
  · exact .inl rfl
theorem errs_good {s r : Sg} (h : signsFault s r = 0) (h2 : (errs s r).2 = 0) : fe 1048576 s r < 1048576 ∧ (errs s r).1 = fe 1048576 s r := by
  rw [errs_eq h] at h2 ⊢
  split at h2
  · cases h2
  · rename_i h3; rw [if_neg h3]; exact ⟨by omega, rfl⟩
theorem errs_of_ex {s r : Sg} {n : Int} (h : signsFault s r = 0) (hx : Ex s r n) : (errs s r).2 = 0 ∧ (errs s r).1 = fe 1048576 s r ∧ fe 1048576 s r ≤ n := by
  have h1 := fe_le hx
  have h2 := ex_facts hx
  have h3 := sf_zero h
  rw [errs_eq h, if_neg (by omega)]
  exact ⟨rfl, rfl, h1⟩
theorem sf_mk {s r : Sg} (h1 : s.length ≤ 40) (h2 : r.length ≤ 40) (h3 : isSigns s = true) (h4 : isSigns r = true) : signsFault s r = 0 := by
  unfold signsFault; rw [if_neg (by omega), h3, h4]; rfl
theorem sf_self {s r : Sg} (h : signsFault s r = 0) : signsFault s s = 0 ∧ signsFault r r = 0 := by
  obtain ⟨_, _, h1, h2, h3, h4⟩ := sf_zero h
  exact ⟨sf_mk h1 h1 h3 h3, sf_mk h2 h2 h4 h4⟩
theorem errs_self {s r : Sg} (h : signsFault s r = 0) : errs s s = (0, 0) := by
  have h1 := (sf_self h).1
  obtain ⟨h2, h3, h4⟩ := errs_of_ex h1 (ex_refl s)
  have h5 := fe_bounds (F := 1048576) (by decide) s s
  exact Prod.ext (by rw [h3]; show _ = (0 : Int); omega) h2
theorem errs_bad {s r : Sg} (h : signsFault s r = 0) (h2 : ¬ (errs s r).2 = 0) : (errs s r).2 = 11 ∧ s ≠ r := by
  refine ⟨(errs_two h).resolve_left h2, fun he => ?_⟩
  subst he
  rw [errs_self h] at h2
  exact h2 rfl
theorem errs_facts {s r : Sg} (h : signsFault s r = 0) (h2 : (errs s r).2 = 0) : ((errs s r).1 = 0 ↔ s = r) ∧ (s.length : Int) - r.length ≤ (errs s r).1 ∧ (r.length : Int) - s.length ≤ (errs s r).1 := by
  obtain ⟨h3, h4⟩ := errs_good h h2
  obtain ⟨i1, i2, i3, i4, _⟩ := ex_facts (ex_fe h3)
  rw [h4]
  refine ⟨⟨i2, fun he => ?_⟩, i3, i4⟩
  subst he
  rw [← h4, errs_self h]
theorem isSigns_append {a b : Sg} : isSigns (a ++ b) = (isSigns a && isSigns b) := by unfold isSigns; rw [List.all_append]
theorem sf_join {a b x y : Sg} (h : signsFault (a ++ b) (x ++ y) = 0) : signsFault a x = 0 ∧ signsFault b y = 0 := by
  obtain ⟨_, _, h1, h2, h3, h4⟩ := sf_zero h
  rw [List.length_append] at h1 h2
  rw [isSigns_append, Bool.and_eq_true] at h3 h4
  exact ⟨sf_mk (by omega) (by omega) h3.1 h4.1, sf_mk (by omega) (by omega) h3.2 h4.2⟩
theorem errs_join {a b x y : Sg} (h : signsFault (a ++ b) (x ++ y) = 0) (h1 : (errs a x).2 = 0) (h2 : (errs b y).2 = 0) : (errs (a ++ b) (x ++ y)).2 = 0 ∧ (errs (a ++ b) (x ++ y)).1 ≤ (errs a x).1 + (errs b y).1 := by
  obtain ⟨j1, j2⟩ := sf_join h
  obtain ⟨g1, g2⟩ := errs_good j1 h1
  obtain ⟨g3, g4⟩ := errs_good j2 h2
  obtain ⟨k1, k2, k3⟩ := errs_of_ex h (ex_append (ex_fe g1) (ex_fe g3))
  exact ⟨k1, by omega⟩
theorem errs_turned {s r : Sg} (h : signsFault s r = 0) : errs s.reverse r.reverse = errs s r := by
  obtain ⟨_, _, h1, h2, h3, h4⟩ := sf_zero h
  have hr : ∀ s : Sg, isSigns s.reverse = isSigns s := fun s => by unfold isSigns; rw [List.all_reverse]
  rw [errs_eq h, errs_eq (sf_mk (by rw [List.length_reverse]; omega) (by rw [List.length_reverse]; omega) (by rw [hr]; exact h3) (by rw [hr]; exact h4)), fe_rev]
theorem errs_bounds (s r : Sg) : 0 ≤ (errs s r).1 ∧ (errs s r).1 ≤ 1048576 := by
  have := fe_bounds (F := 1048576) (by decide) s r
  unfold errs
  repeat' split
  all_goals first | exact this | exact ⟨Int.le_refl _, by show (0 : Int) ≤ _; decide⟩



end Go.Proofs.YtekkdhpgcilpdaaGreat
