/- Contracts. -/
import Derived.Test.YtkcbgpilfegofaaF20
set_option linter.unusedVariables false
set_option linter.unusedSimpArgs false
namespace Go.Proofs.Ytkcbgpilfegofaa
open Go Go.RowKit Go.Gv Go.Fl

theorem sv_same {L M : List SV} (h : M.map (·.xs) = L.map (·.xs)) (hl : L.length ≤ 2097152) (hle : ∀ s ∈ L, s.xs.length ≤ 2097152) : M.length ≤ 2097152 ∧ ∀ s ∈ M, s.xs.length ≤ 2097152 := by
  refine ⟨by have := congrArg List.length h; rw [List.length_map, List.length_map] at this; omega, fun s hs => ?_⟩
  have hm : s.xs ∈ M.map (·.xs) := List.mem_map.2 ⟨s, hs, rfl⟩
  rw [h] at hm
  obtain ⟨s', hs', he⟩ := List.mem_map.1 hm
  rw [← he]; exact hle s' hs'
theorem lf_facts {T : List (List Int)} (h : listFault T = 0) : T.length ≤ 64 ∧ (∀ t ∈ T, t.length ≤ 5) ∧ T ≠ [] ∧ decidesB T 0 5 = true ∧ T.all (fun t => t.all (fun n => decide (0 ≤ n) && decide (n ≤ 5))) = true := by
  unfold listFault at h
  split at h
  · cases h
  · rename_i h1
    split at h
    · cases h
    · rename_i h2
      split at h
      · cases h
      · rename_i h3
        refine ⟨by omega, fun t ht => ?_, fun h => h2 (.inl h), by simpa using h3, ?_⟩
        · have h5 : T.all (fun t => decide (t.length ≤ 5)) = true := by
            cases hx : T.all (fun t => decide (t.length ≤ 5)) with
            | true => rfl
            | false => exact absurd (.inr hx) h1
          exact of_decide_eq_true (List.all_eq_true.1 h5 t ht)
        · cases hx : T.all (fun t => t.all (fun n => decide (0 ≤ n) && decide (n ≤ 5))) with
          | true => rfl
          | false => exact absurd (.inr hx) h2
theorem lf_dec {T : List (List Int)} (h : listFault T = 0) : decidesB T 0 5 = true := (lf_facts h).2.2.2.1
/-- the first part that decides -/
theorem dec_first {T : List (List Int)} (h : listFault T = 0) : ∃ m f, m < 6 ∧ f < 5 ∧ decidesB T f m = true ∧ ∀ m' f', f' < 6 → (m' < m ∨ (m' = m ∧ f' < f)) → decidesB T f' m' = false := by
  obtain ⟨_, h5, _, hd, _⟩ := lf_facts h
  have hex : ∃ i : Nat, decidesB T (i % 6) (i / 6) = true := ⟨30, hd⟩
  have key : ∀ n, (∃ i, i < n ∧ decidesB T (i % 6) (i / 6) = true ∧ ∀ j, j < i → decidesB T (j % 6) (j / 6) = false) ∨ ∀ j, j < n → decidesB T (j % 6) (j / 6) = false := by
    intro n
    induction n with
    | zero => right; intro j hj; omega
    | succ n ih =>
      rcases ih with ⟨i, hi, h1, h2⟩ | hall
      · exact .inl ⟨i, by omega, h1, h2⟩
      · cases hc : decidesB T (n % 6) (n / 6) with
        | true => exact .inl ⟨n, by omega, hc, hall⟩
        | false =>
          right; intro j hj
          rcases Nat.lt_succ_iff_lt_or_eq.1 hj with h | h
          · exact hall j h
          · subst h; exact hc
  rcases key 31 with ⟨i, hi, h1, h2⟩ | hall
  · have hlow : ∀ m' f', f' < 6 → (m' < i / 6 ∨ (m' = i / 6 ∧ f' < i % 6)) → decidesB T f' m' = false := fun m' f' hf hlt => by
      have h3 := h2 (m' * 6 + f') (by omega)
      rwa [show (m' * 6 + f') % 6 = f' by omega, show (m' * 6 + f') / 6 = m' by omega] at h3
    refine ⟨i / 6, i % 6, by omega, ?_, h1, hlow⟩
    have hlt : i % 6 < 6 := Nat.mod_lt _ (by decide)
    by_cases h55 : i % 6 = 5
    · -- a part from 5 on is empty: at most one text
      rw [h55] at h1
      have hone : decidesB T 0 0 = true := by
        unfold decidesB at h1 ⊢
        have he : (T.map fun t => part t 0 0) = T.map fun t => part t 5 (i / 6) := by
          refine List.map_congr_left fun t ht => ?_
          have := h5 t ht
          unfold part
          rw [List.drop_eq_nil_of_le this]; simp
        rw [he]; exact h1
      have := hlow 0 0 (by decide) (by omega)
      rw [this] at hone; cases hone
    · omega
  · have := hall 30 (by decide)
    rw [show decidesB T (30 % 6) (30 / 6) = decidesB T 0 5 from rfl, hd] at this; cases this
theorem rep_eq {T : List (List Int)} (h : listFault T = 0) : ∃ m f, m < 6 ∧ f < 5 ∧ decidesB T f m = true ∧ (∀ m' f', f' < 6 → (m' < m ∨ (m' = m ∧ f' < f)) → decidesB T f' m' = false) ∧ rep T 6 = (f, m) ∧ rep T 5 = (f, m) := by
  obtain ⟨m, f, hm, hf, hd, hlow⟩ := dec_first h
  refine ⟨m, f, hm, hf, hd, hlow, rep6 hm (by omega) hd (fun i hi => hlow _ _ (Nat.mod_lt _ (by decide)) (by omega)), rep5 hm hf hd (fun i hi => hlow _ _ (Nat.lt_of_lt_of_le (Nat.mod_lt _ (by decide)) (by decide)) (by omega))⟩
theorem rep_same {T : List (List Int)} (h : listFault T = 0) : repAll T = (((rep T 6).1 : Int), ((rep T 6).2 : Int), 0) := by
  obtain ⟨m, f, _, _, _, _, h6, h5⟩ := rep_eq h
  unfold repAll
  rw [if_pos h, h5, h6]


theorem flashRepeats_ret (la : Option Addr) (lc : Nat) (L : List SV) (w : World) (hl : Row w la L.length lc 1 (L.map SV.enc)) (hlr : RowsI w L) (hln : L.length ≤ 2097152) (hle : ∀ s ∈ L, s.xs.length ≤ 2097152) : Ret Try.prog 6 [.slice la L.length lc] w (fun v w' => v = .bool true ∧ Ext w w') := by
  have hB := Below.refl w.heap.size w
  have hsz : w.heap.size ≤ w.heap.size := Nat.le_refl _
  refine ret_of_runs (args := [_]) Try.func6 rfl (Nat.le_of_ble_eq_true rfl) (by kernel_rfl) ?_
  refine r_seq ?_
  refine r_region' ?_
  refine l_q (q_assign (v := .bool _) rfl rfl) ?_
  refine l_nil ?_
  refine r_forget [(0, .slice _ _ _)] ⟨rfl, trivial⟩ (fun e1 => ?_)
  refine r_seq ?_
  refine r_seq ?_
  refine r_region' ?_
  refine l_q (q_move (v := .slice _ _ _) rfl rfl) ?_
  refine l_o (o_call Try.call36 rfl (short_ret _ _ L _ (hl.below hB) (hlr.below hB) (by omega) (by assumption)) rfl ?_)
  rintro _ w2 ⟨rfl, rfl⟩
  refine l_q (q_not rfl rfl) ?_
  refine l_nil ?_
  refine r_forget [(0, .slice _ _ _), (11, .bool _)] ⟨rfl, rfl, trivial⟩ (fun e3 => ?_)
  refine r_cond rfl (fun hc4 => ?_) (fun hc4 => ?_)
  · skip
    try simp only [decide_eq_true_eq, decide_eq_false_iff_not, Bool.not_eq_true', Bool.not_eq_false', Bool.not_not, Bool.not_true, Bool.not_false, Bool.not_eq_true, Bool.not_eq_false, Int.not_lt, Int.not_le, Bool.and_eq_true, Bool.or_eq_true, Bool.and_eq_false_iff, Bool.or_eq_false_iff] at hc4
    refine r_seq ?_
    refine r_region' ?_
    refine l_o (o_call Try.call18 rfl (awake_ret _) rfl ?_)
    rintro _ w5 ⟨rfl, hE5⟩
    replace hB := below_ext hB hE5 hsz
    replace hsz := Nat.le_trans hsz hE5.size
    refine l_q (q_assign (v := .bool _) rfl rfl) ?_
    refine l_nil ?_
    refine r_forget [(2, .bool _)] ⟨rfl, trivial⟩ (fun e6 => ?_)
    refine r_ret_ (vs := [.bool _]) rfl Try.func6 rfl (.nil _) ⟨rfl, trivial⟩ ?_
    exact ⟨rfl, Ext.of_below hB⟩
  · skip
    try simp only [decide_eq_true_eq, decide_eq_false_iff_not, Bool.not_eq_true', Bool.not_eq_false', Bool.not_not, Bool.not_true, Bool.not_false, Bool.not_eq_true, Bool.not_eq_false, Int.not_lt, Int.not_le, Bool.and_eq_true, Bool.or_eq_true, Bool.and_eq_false_iff, Bool.or_eq_false_iff] at hc4
    refine r_skip ?_
    refine r_seq ?_
    refine r_region' ?_
    refine l_q (q_move (v := .slice _ _ _) rfl rfl) ?_
    refine l_o (o_call Try.call38 rfl (rows_ret _ _ L _ (hl.below hB) (hlr.below hB) (by omega) (by assumption)) rfl ?_)
    have hszp7 : w.heap.size ≤ w.heap.size := hsz
    rintro _ w7 ⟨oa7, oc7, L7, rfl, ho7, hos7, hm7, hE7⟩
    replace ho7 := own_mono ho7 (show w.heap.size ≤ _ by omega)
    replace hB := below_ext hB hE7 hsz
    replace hsz := Nat.le_trans hsz hE7.size
    have hm := hm7
    have hm2 := sv_same hm hln hle
    refine l_o (o_call Try.call37 rfl ((by have h := frepeat_ret _ _ L7 _ (Row.of_owns ho7) hos7.rows hm2.1 hm2.2; rw [hm] at h; exact h)) rfl ?_)
    rintro _ w8 ⟨rfl, hE8⟩
    replace hB := below_ext hB hE8 hsz
    replace ho7 := own_ext ho7 hE8
    replace hos7 := hos7.ext hE8
    replace hsz := Nat.le_trans hsz hE8.size
    refine l_q (q_move (v := .tuple _) rfl rfl) ?_
    refine l_q (q_extract (vs := [_, _, _]) (v := .int _ _) rfl rfl rfl) ?_
    refine l_q (q_extract (vs := [_, _, _]) (v := .int _ _) rfl rfl rfl) ?_
    refine l_q (q_extract (vs := [_, _, _]) (v := .int _ _) rfl rfl rfl) ?_
    refine l_q (q_assign (v := .int _ _) rfl rfl) ?_
    refine l_q (q_assign (v := .int _ _) rfl rfl) ?_
    refine l_q (q_assign (v := .int _ _) rfl rfl) ?_
    refine l_nil ?_
    refine r_forget [(0, .slice _ _ _), (3, .int _ _), (4, .int _ _), (5, .int _ _)] ⟨rfl, rfl, rfl, rfl, trivial⟩ (fun e9 => ?_)
    refine r_seq ?_
    refine r_seq ?_
    refine r_region' ?_
    refine l_q (q_move (v := .slice _ _ _) rfl rfl) ?_
    refine l_o (o_call Try.call39 rfl (listFault_ret _ _ _ _ (hl.below hB) (hlr.below hB) (by omega) (by assumption)) rfl ?_)
    rintro _ w10 ⟨rfl, hE10⟩
    replace hB := below_ext hB hE10 hsz
    replace ho7 := own_ext ho7 hE10
    replace hos7 := hos7.ext hE10
    replace hsz := Nat.le_trans hsz hE10.size
    refine l_q (q_assign (v := .int _ _) rfl rfl) ?_
    refine l_nil ?_
    refine r_forget [(0, .slice _ _ _), (3, .int _ _), (4, .int _ _), (5, .int _ _), (6, .int _ _)] ⟨rfl, rfl, rfl, rfl, rfl, trivial⟩ (fun e11 => ?_)
    refine r_seq ?_
    refine r_region' ?_
    refine l_q (q_move (v := .int _ _) rfl rfl) ?_
    refine l_q (q_neq rfl rfl rfl) ?_
    refine l_nil ?_
    refine r_forget [(0, .slice _ _ _), (3, .int _ _), (4, .int _ _), (5, .int _ _), (6, .int _ _), (23, .bool _)] ⟨rfl, rfl, rfl, rfl, rfl, rfl, trivial⟩ (fun e12 => ?_)
    refine r_cond rfl (fun hc13 => ?_) (fun hc13 => ?_)
    · skip
      try simp only [decide_eq_true_eq, decide_eq_false_iff_not, Bool.not_eq_true', Bool.not_eq_false', Bool.not_not, Bool.not_true, Bool.not_false, Bool.not_eq_true, Bool.not_eq_false, Int.not_lt, Int.not_le, Bool.and_eq_true, Bool.or_eq_true, Bool.and_eq_false_iff, Bool.or_eq_false_iff] at hc13
      have hr : repAll (L.map (·.xs)) = (0, 0, listFault (L.map (·.xs))) := rep_err rfl hc13
      refine r_seq ?_
      refine r_region' ?_
      refine l_q (q_move (v := .int _ _) rfl rfl) ?_
      refine l_q (q_move (v := .int _ _) rfl rfl) ?_
      refine l_q (q_eql rfl rfl rfl) ?_
      refine l_q (q_move (v := .bool _) rfl rfl) ?_
      have hk14 : (decide (((repAll (L.map (·.xs))).2.2) = (listFault (L.map (·.xs))))) = true := by rw [hr]; simp
      refine l_part 27 rfl (fun _ => ?_) (fun hx => absurd (hk14.symm.trans hx) (by decide))
      refine l_q (q_move (v := .int _ _) rfl rfl) ?_
      refine l_q (q_eql rfl rfl rfl) ?_
      refine l_q (q_pick_t (v := .bool _) rfl rfl rfl) ?_
      refine l_q (q_move (v := .bool _) rfl rfl) ?_
      have hk15 : (decide (((repAll (L.map (·.xs))).1) = 0)) = true := by rw [hr]; simp
      refine l_part 31 rfl (fun _ => ?_) (fun hx => absurd (hk15.symm.trans hx) (by decide))
      refine l_q (q_move (v := .int _ _) rfl rfl) ?_
      refine l_q (q_eql rfl rfl rfl) ?_
      refine l_q (q_pick_t (v := .bool _) rfl rfl rfl) ?_
      refine l_q (q_move (v := .bool _) rfl rfl) ?_
      have hk16 : (decide (((repAll (L.map (·.xs))).2.1) = 0)) = true := by rw [hr]; simp
      refine l_part 35 rfl (fun _ => ?_) (fun hx => absurd (hk16.symm.trans hx) (by decide))
      refine l_o (o_call Try.call18 rfl (awake_ret _) rfl ?_)
      rintro _ w17 ⟨rfl, hE17⟩
      replace hB := below_ext hB hE17 hsz
      replace ho7 := own_ext ho7 hE17
      replace hos7 := hos7.ext hE17
      replace hsz := Nat.le_trans hsz hE17.size
      refine l_q (q_pick_t (v := .bool _) rfl rfl rfl) ?_
      refine l_q (q_assign (v := .bool _) rfl rfl) ?_
      refine l_nil ?_
      refine r_forget [(2, .bool _)] ⟨rfl, trivial⟩ (fun e18 => ?_)
      refine r_ret_ (vs := [.bool _]) rfl Try.func6 rfl (.nil _) ⟨rfl, trivial⟩ ?_
      exact ⟨rfl, Ext.of_below hB⟩
    · skip
      try simp only [decide_eq_true_eq, decide_eq_false_iff_not, Bool.not_eq_true', Bool.not_eq_false', Bool.not_not, Bool.not_true, Bool.not_false, Bool.not_eq_true, Bool.not_eq_false, Int.not_lt, Int.not_le, Bool.and_eq_true, Bool.or_eq_true, Bool.and_eq_false_iff, Bool.or_eq_false_iff] at hc13
      have hlf : listFault (L.map (·.xs)) = 0 := by simpa using hc13
      have hdec := lf_dec hlf
      have hr := rep_same hlf
      refine r_skip ?_
      refine r_seq ?_
      refine r_region' ?_
      refine l_q (q_move (v := .slice _ _ _) rfl rfl) ?_
      refine l_o (o_call Try.call40 rfl (rrepeat_ret _ _ L _ (hl.below hB) (hlr.below hB) (by omega) (by assumption) hdec) rfl ?_)
      rintro _ w19 ⟨rfl, hE19⟩
      replace hB := below_ext hB hE19 hsz
      replace ho7 := own_ext ho7 hE19
      replace hos7 := hos7.ext hE19
      replace hsz := Nat.le_trans hsz hE19.size
      refine l_q (q_move (v := .tuple _) rfl rfl) ?_
      refine l_q (q_extract (vs := [_, _]) (v := .int _ _) rfl rfl rfl) ?_
      refine l_q (q_extract (vs := [_, _]) (v := .int _ _) rfl rfl rfl) ?_
      refine l_q (q_assign (v := .int _ _) rfl rfl) ?_
      refine l_q (q_assign (v := .int _ _) rfl rfl) ?_
      refine l_nil ?_
      refine r_forget [(3, .int _ _), (4, .int _ _), (5, .int _ _), (7, .int _ _), (8, .int _ _)] ⟨rfl, rfl, rfl, rfl, rfl, trivial⟩ (fun e20 => ?_)
      refine r_seq ?_
      refine r_region' ?_
      refine l_q (q_move (v := .int _ _) rfl rfl) ?_
      refine l_q (q_eql rfl rfl rfl) ?_
      refine l_q (q_move (v := .bool _) rfl rfl) ?_
      have hk21 : (decide (((repAll (L.map (·.xs))).2.2) = 0)) = true := by rw [hr]; simp
      refine l_part 45 rfl (fun _ => ?_) (fun hx => absurd (hk21.symm.trans hx) (by decide))
      refine l_q (q_move (v := .int _ _) rfl rfl) ?_
      refine l_q (q_move (v := .int _ _) rfl rfl) ?_
      refine l_q (q_eql rfl rfl rfl) ?_
      refine l_q (q_pick_t (v := .bool _) rfl rfl rfl) ?_
      refine l_q (q_move (v := .bool _) rfl rfl) ?_
      have hk22 : (decide (((repAll (L.map (·.xs))).1) = ((rep (L.map (·.xs)) 6).1 : Int))) = true := by rw [hr]; simp
      refine l_part 50 rfl (fun _ => ?_) (fun hx => absurd (hk22.symm.trans hx) (by decide))
      refine l_q (q_move (v := .int _ _) rfl rfl) ?_
      refine l_q (q_move (v := .int _ _) rfl rfl) ?_
      refine l_q (q_eql rfl rfl rfl) ?_
      refine l_q (q_pick_t (v := .bool _) rfl rfl rfl) ?_
      refine l_q (q_move (v := .bool _) rfl rfl) ?_
      have hk23 : (decide (((repAll (L.map (·.xs))).2.1) = ((rep (L.map (·.xs)) 6).2 : Int))) = true := by rw [hr]; simp
      refine l_part 55 rfl (fun _ => ?_) (fun hx => absurd (hk23.symm.trans hx) (by decide))
      refine l_o (o_call Try.call18 rfl (awake_ret _) rfl ?_)
      rintro _ w24 ⟨rfl, hE24⟩
      replace hB := below_ext hB hE24 hsz
      replace ho7 := own_ext ho7 hE24
      replace hos7 := hos7.ext hE24
      replace hsz := Nat.le_trans hsz hE24.size
      refine l_q (q_pick_t (v := .bool _) rfl rfl rfl) ?_
      refine l_q (q_assign (v := .bool _) rfl rfl) ?_
      refine l_nil ?_
      refine r_forget [(2, .bool _)] ⟨rfl, trivial⟩ (fun e25 => ?_)
      refine r_ret_ (vs := [.bool _]) rfl Try.func6 rfl (.nil _) ⟨rfl, trivial⟩ ?_
      exact ⟨rfl, Ext.of_below hB⟩
end Go.Proofs.Ytkcbgpilfegofaa
