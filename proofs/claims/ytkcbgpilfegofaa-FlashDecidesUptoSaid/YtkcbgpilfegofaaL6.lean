/- Contracts. -/
import Derived.Test.YtkcbgpilfegofaaF20
set_option linter.unusedVariables false
set_option linter.unusedSimpArgs false
namespace Go.Proofs.Ytkcbgpilfegofaa
open Go Go.RowKit Go.Gv Go.Fl

theorem sv_same {L M : List SV} (h : M.map (·.xs) = L.map (·.xs)) (hl : L.length ≤ 2097152) (hle : ∀ s ∈ L, s.xs.length ≤ 2097152) : M.length ≤ 2097152 ∧ ∀ s ∈ M, s.xs.length ≤ 2097152 := by
  refine ⟨by have := congrArg List.length h; rw [List.length_map, List.length_map] at this; omega, fun s hs => ?_⟩
  have hm : s.xs ∈ M.map (·.xs) := List.mem_map.2 ⟨s, hs, rfl⟩
  rw [h] at hm
  obtain ⟨s', hs', he⟩ := List.mem_map.1 hm
  rw [← he]; exact hle s' hs'
theorem lf_facts {T : List (List Int)} (h : listFault T = 0) : T.length ≤ 64 ∧ (∀ t ∈ T, t.length ≤ 5) ∧ T ≠ [] ∧ decidesB T 0 5 = true ∧ T.all (fun t => t.all (fun n => decide (0 ≤ n) && decide (n ≤ 5))) = true := by
  unfold listFault at h
  split at h
  · cases h
  · rename_i h1
    split at h
    · cases h
    · rename_i h2
      split at h
      · cases h
      · rename_i h3
        refine ⟨by omega, fun t ht => ?_, fun h => h2 (.inl h), by simpa using h3, ?_⟩
        · have h5 : T.all (fun t => decide (t.length ≤ 5)) = true := by
            cases hx : T.all (fun t => decide (t.length ≤ 5)) with
            | true => rfl
            | false => exact absurd (.inr hx) h1
          exact of_decide_eq_true (List.all_eq_true.1 h5 t ht)
        · cases hx : T.all (fun t => t.all (fun n => decide (0 ≤ n) && decide (n ≤ 5))) with
          | true => rfl
          | false => exact absurd (.inr hx) h2
theorem lf_dec {T : List (List Int)} (h : listFault T = 0) : decidesB T 0 5 = true := (lf_facts h).2.2.2.1
/-- the first part that decides -/
theorem dec_first {T : List (List Int)} (h : listFault T = 0) : ∃ m f, m < 6 ∧ f < 5 ∧ decidesB T f m = true ∧ ∀ m' f', f' < 6 → (m' < m ∨ (m' = m ∧ f' < f)) → decidesB T f' m' = false := by
  obtain ⟨_, h5, _, hd, _⟩ := lf_facts h
  have hex : ∃ i : Nat, decidesB T (i % 6) (i / 6) = true := ⟨30, hd⟩
  have key : ∀ n, (∃ i, i < n ∧ decidesB T (i % 6) (i / 6) = true ∧ ∀ j, j < i → decidesB T (j % 6) (j / 6) = false) ∨ ∀ j, j < n → decidesB T (j % 6) (j / 6) = false := by
    intro n
    induction n with
    | zero => right; intro j hj; omega
    | succ n ih =>
      rcases ih with ⟨i, hi, h1, h2⟩ | hall
      · exact .inl ⟨i, by omega, h1, h2⟩
      · cases hc : decidesB T (n % 6) (n / 6) with
        | true => exact .inl ⟨n, by omega, hc, hall⟩
        | false =>
          right; intro j hj
          rcases Nat.lt_succ_iff_lt_or_eq.1 hj with h | h
          · exact hall j h
          · subst h; exact hc
  rcases key 31 with ⟨i, hi, h1, h2⟩ | hall
  · have hlow : ∀ m' f', f' < 6 → (m' < i / 6 ∨ (m' = i / 6 ∧ f' < i % 6)) → decidesB T f' m' = false := fun m' f' hf hlt => by
      have h3 := h2 (m' * 6 + f') (by omega)
      rwa [show (m' * 6 + f') % 6 = f' by omega, show (m' * 6 + f') / 6 = m' by omega] at h3
    refine ⟨i / 6, i % 6, by omega, ?_, h1, hlow⟩
    have hlt : i % 6 < 6 := Nat.mod_lt _ (by decide)
    by_cases h55 : i % 6 = 5
    · -- a part from 5 on is empty: at most one text
      rw [h55] at h1
      have hone : decidesB T 0 0 = true := by
        unfold decidesB at h1 ⊢
        have he : (T.map fun t => part t 0 0) = T.map fun t => part t 5 (i / 6) := by
          refine List.map_congr_left fun t ht => ?_
          have := h5 t ht
          unfold part
          rw [List.drop_eq_nil_of_le this]; simp
        rw [he]; exact h1
      have := hlow 0 0 (by decide) (by omega)
      rw [this] at hone; cases hone
    · omega
  · have := hall 30 (by decide)
    rw [show decidesB T (30 % 6) (30 / 6) = decidesB T 0 5 from rfl, hd] at this; cases this
theorem rep_eq {T : List (List Int)} (h : listFault T = 0) : ∃ m f, m < 6 ∧ f < 5 ∧ decidesB T f m = true ∧ (∀ m' f', f' < 6 → (m' < m ∨ (m' = m ∧ f' < f)) → decidesB T f' m' = false) ∧ rep T 6 = (f, m) ∧ rep T 5 = (f, m) := by
  obtain ⟨m, f, hm, hf, hd, hlow⟩ := dec_first h
  refine ⟨m, f, hm, hf, hd, hlow, rep6 hm (by omega) hd (fun i hi => hlow _ _ (Nat.mod_lt _ (by decide)) (by omega)), rep5 hm hf hd (fun i hi => hlow _ _ (Nat.lt_of_lt_of_le (Nat.mod_lt _ (by decide)) (by decide)) (by omega))⟩
theorem rep_same {T : List (List Int)} (h : listFault T = 0) : repAll T = (((rep T 6).1 : Int), ((rep T 6).2 : Int), 0) := by
  obtain ⟨m, f, _, _, _, _, h6, h5⟩ := rep_eq h
  unfold repAll
  rw [if_pos h, h5, h6]

theorem part_m (t : List Int) (f m : Nat) : (part t f m).length ≤ m := by rw [part, List.length_take]; omega
theorem rowsI_append {w : World} {l l' : List SV} (h : RowsI w l) (h' : RowsI w l') : RowsI w (l ++ l') := fun s hs => (List.mem_append.1 hs).elim (h s) (h' s)
theorem lf_pos {L : List SV} (h : listFault (L.map (·.xs)) = 0) : 0 < L.length := by
  have := (lf_facts h).2.2.1
  cases L with
  | nil => exact absurd rfl this
  | cons x l => simp
theorem sv_len {L M : List SV} {k : Nat} (h : M.map (·.xs) = (L.take k).map (·.xs)) : M.length = (L.take k).length := by have := congrArg List.length h; rwa [List.length_map, List.length_map] at this
theorem sv_app {L M : List SV} {k : Nat} (h : M.map (·.xs) = (L.take k).map (·.xs)) (hle : ∀ s ∈ L, s.xs.length ≤ 2097152) : ∀ s ∈ M ++ L.drop (k + 1), s.xs.length ≤ 2097152 := by
  intro s hs
  rcases List.mem_append.1 hs with h1 | h1
  · have hm : s.xs ∈ M.map (·.xs) := List.mem_map.2 ⟨s, h1, rfl⟩
    rw [h] at hm
    obtain ⟨s', hs', he⟩ := List.mem_map.1 hm
    rw [← he]; exact hle s' (List.mem_of_mem_take hs')
  · exact hle s (List.mem_of_mem_drop h1)
theorem sv_le5 {L M N : List SV} {k : Nat} (h5 : N.map (·.xs) = (M ++ L.drop (k + 1)).map (·.xs)) (h : M.map (·.xs) = (L.take k).map (·.xs)) (hl : L.length ≤ 2097152) (hle : ∀ s ∈ L, s.xs.length ≤ 2097152) : N.length ≤ 2097152 ∧ ∀ s ∈ N, s.xs.length ≤ 2097152 :=
  sv_same h5 (by rw [List.length_append, sv_len h, List.length_take, List.length_drop]; omega) (sv_app h hle)
theorem sv_map5 {L M : List SV} {k : Nat} (h : M.map (·.xs) = (L.take k).map (·.xs)) : (M ++ L.drop (k + 1)).map (·.xs) = (L.map (·.xs)).take k ++ (L.map (·.xs)).drop (k + 1) := by
  rw [List.map_append, h, List.map_take, List.map_drop]
theorem dec_ne {L : List SV} {f m i k : Nat} (hd : decidesB (L.map (·.xs)) f m = true) (hi : i < L.length) (hk : k < L.length) (hne : i ≠ k) : part (L.getD i sv0).xs f m ≠ part (L.getD k sv0).xs f m := by
  have := nodup_iff.1 hd
  rcases Nat.lt_or_gt_of_ne hne with h | h
  · exact fun he => this k hk i h he.symm
  · exact this i hi k h
theorem rep_one {T : List (List Int)} {m f : Nat} (hlf : listFault T = 0) (hd : decidesB T f m = true) (hlow : ∀ m' f', f' < 6 → (m' < m ∨ (m' = m ∧ f' < f)) → decidesB T f' m' = false) (h1 : T.length = 1) : m = 0 ∧ f = 0 := by
  have h0 : decidesB T 0 0 = true := by
    unfold decidesB
    match T, h1 with
    | [t], _ => simp
  by_cases h : m = 0 ∧ f = 0
  · exact h
  · have := hlow 0 0 (by decide) (by omega)
    rw [this] at h0; cases h0
theorem sub_lf {T T' : List (List Int)} (h : listFault T = 0) (hs : List.Sublist T' T) (hne : T' ≠ []) : listFault T' = 0 := by
  obtain ⟨h1, h2, h3, h4, h5⟩ := lf_facts h
  have hl := hs.length_le
  have hall : T'.all (fun t => t.all (fun n => decide (0 ≤ n) && decide (n ≤ 5))) = true := List.all_eq_true.2 fun t ht => List.all_eq_true.1 h5 t (hs.subset ht)
  have hall5 : T'.all (fun t => decide (t.length ≤ 5)) = true := List.all_eq_true.2 fun t ht => decide_eq_true (h2 t (hs.subset ht))
  have hdec : decidesB T' 0 5 = true := by
    unfold decidesB at h4 ⊢
    exact decide_eq_true ((hs.map _).nodup (of_decide_eq_true h4))
  unfold listFault
  rw [if_neg (by rw [hall5]; exact fun h => h.elim (fun h => by omega) (fun h => by cases h)), if_neg (by rw [hall]; exact fun h => h.elim hne (fun h => by cases h)), if_neg (by rw [hdec]; simp)]
theorem rep_less {L : List SV} {m f k : Nat} (hlf : listFault (L.map (·.xs)) = 0) (hd : decidesB (L.map (·.xs)) f m = true) (hm : m < 6) (hf : f < 5) (hk : k < L.length) (hne : 1 < L.length) :
    ∃ m5 f5 : Nat, repAll ((L.map (·.xs)).take k ++ (L.map (·.xs)).drop (k + 1)) = ((f5 : Int), (m5 : Int), 0) ∧ m5 ≤ m := by
  have hs : List.Sublist ((L.map (·.xs)).take k ++ (L.map (·.xs)).drop (k + 1)) (L.map (·.xs)) := by
    have h1 : L.map (·.xs) = (L.map (·.xs)).take k ++ (L.map (·.xs)).drop k := (List.take_append_drop _ _).symm
    conv => rhs; rw [h1]
    refine List.Sublist.append (List.Sublist.refl _) ?_
    have h2 : (L.map (·.xs)).drop k = (L.map (·.xs))[k]'(by rw [List.length_map]; exact hk) :: (L.map (·.xs)).drop (k + 1) := List.drop_eq_getElem_cons _
    rw [h2]
    exact List.sublist_cons_self _ _
  have hlf5 := sub_lf hlf hs (fun h => by
    have := congrArg List.length h
    rw [List.length_append, List.length_take, List.length_drop, List.length_map] at this
    simp only [List.length_nil] at this; omega)
  obtain ⟨m5, f5, h1, h2, h3, h4, h5, _⟩ := rep_eq hlf5
  refine ⟨m5, f5, by rw [rep_same hlf5, h5], ?_⟩
  by_cases hlt : m < m5
  · have hbad := h4 m f (by omega) (.inl hlt)
    have hgood : decidesB ((L.map (·.xs)).take k ++ (L.map (·.xs)).drop (k + 1)) f m = true := by
      unfold decidesB at hd ⊢
      exact decide_eq_true ((hs.map _).nodup (of_decide_eq_true hd))
    rw [hbad] at hgood; cases hgood
  · omega


theorem flashDecides_ret (la : Option Addr) (lc : Nat) (L : List SV) (wh fr ma : Int) (w : World) (hl : Row w la L.length lc 1 (L.map SV.enc)) (hlr : RowsI w L) (hln : L.length ≤ 2097152) (hle : ∀ s ∈ L, s.xs.length ≤ 2097152) (hwh : 0 ≤ wh ∧ wh ≤ 255) (hfr : 0 ≤ fr ∧ fr ≤ 255) (hma : 0 ≤ ma ∧ ma ≤ 255) : Ret Try.prog 11 [.slice la L.length lc, .int .u8 wh, .int .u8 fr, .int .u8 ma] w (fun v w' => v = .bool true ∧ Ext w w') := by
  have hB := Below.refl w.heap.size w
  have hsz : w.heap.size ≤ w.heap.size := Nat.le_refl _
  refine ret_of_runs (args := [_, _, _, _]) Try.func11 rfl (Nat.le_of_ble_eq_true rfl) (by kernel_rfl) ?_
  refine r_seq ?_
  refine r_region' ?_
  refine l_q (q_assign (v := .bool _) rfl rfl) ?_
  refine l_nil ?_
  refine r_forget [(0, .slice _ _ _), (1, .int _ _), (2, .int _ _), (3, .int _ _)] ⟨rfl, rfl, rfl, rfl, trivial⟩ (fun e1 => ?_)
  refine r_seq ?_
  refine r_seq ?_
  refine r_region' ?_
  refine l_q (q_move (v := .slice _ _ _) rfl rfl) ?_
  refine l_o (o_call Try.call36 rfl (short_ret _ _ L _ (hl.below hB) (hlr.below hB) (by omega) (by assumption)) rfl ?_)
  rintro _ w2 ⟨rfl, rfl⟩
  refine l_q (q_not rfl rfl) ?_
  refine l_q (q_move (v := .bool _) rfl rfl) ?_
  refine l_part 23 rfl (fun hc3 => ?_) (fun hc3 => ?_)
  · skip
    try simp only [decide_eq_true_eq, decide_eq_false_iff_not, Bool.not_eq_true', Bool.not_eq_false', Bool.not_not, Bool.not_true, Bool.not_false, Bool.not_eq_true, Bool.not_eq_false, Int.not_lt, Int.not_le, Bool.and_eq_true, Bool.or_eq_true, Bool.and_eq_false_iff, Bool.or_eq_false_iff] at hc3
    refine l_q (q_skip rfl) ?_
    refine l_q (q_skip rfl) ?_
    refine l_q (q_skip rfl) ?_
    refine l_q (q_pick_t (v := .bool _) rfl rfl rfl) ?_
    refine l_nil ?_
    refine r_forget [(0, .slice _ _ _), (1, .int _ _), (2, .int _ _), (3, .int _ _), (27, .bool _)] ⟨rfl, rfl, rfl, rfl, rfl, trivial⟩ (fun e4 => ?_)
    refine r_cond_t rfl ?_
    refine r_seq ?_
    refine r_region' ?_
    refine l_o (o_call Try.call18 rfl (awake_ret _) rfl ?_)
    rintro _ w5 ⟨rfl, hE5⟩
    replace hB := below_ext hB hE5 hsz
    replace hsz := Nat.le_trans hsz hE5.size
    refine l_q (q_assign (v := .bool _) rfl rfl) ?_
    refine l_nil ?_
    refine r_forget [(8, .bool _)] ⟨rfl, trivial⟩ (fun e6 => ?_)
    refine r_ret_ (vs := [.bool _]) rfl Try.func11 rfl (.nil _) ⟨rfl, trivial⟩ ?_
    exact ⟨rfl, Ext.of_below hB⟩
  · skip
    try simp only [decide_eq_true_eq, decide_eq_false_iff_not, Bool.not_eq_true', Bool.not_eq_false', Bool.not_not, Bool.not_true, Bool.not_false, Bool.not_eq_true, Bool.not_eq_false, Int.not_lt, Int.not_le, Bool.and_eq_true, Bool.or_eq_true, Bool.and_eq_false_iff, Bool.or_eq_false_iff] at hc3
    refine l_q (q_move (v := .slice _ _ _) rfl rfl) ?_
    refine l_o (o_call Try.call39 rfl (listFault_ret _ _ _ _ (hl.below hB) (hlr.below hB) (by omega) (by assumption)) rfl ?_)
    rintro _ w7 ⟨rfl, hE7⟩
    replace hB := below_ext hB hE7 hsz
    replace hsz := Nat.le_trans hsz hE7.size
    refine l_q (q_neq rfl rfl rfl) ?_
    refine l_q (q_pick_f (v := .bool _) rfl rfl rfl) ?_
    refine l_nil ?_
    refine r_forget [(0, .slice _ _ _), (1, .int _ _), (2, .int _ _), (3, .int _ _), (27, .bool _)] ⟨rfl, rfl, rfl, rfl, rfl, trivial⟩ (fun e8 => ?_)
    refine r_cond rfl (fun hc9 => ?_) (fun hc9 => ?_)
    · skip
      try simp only [decide_eq_true_eq, decide_eq_false_iff_not, Bool.not_eq_true', Bool.not_eq_false', Bool.not_not, Bool.not_true, Bool.not_false, Bool.not_eq_true, Bool.not_eq_false, Int.not_lt, Int.not_le, Bool.and_eq_true, Bool.or_eq_true, Bool.and_eq_false_iff, Bool.or_eq_false_iff] at hc9
      refine r_seq ?_
      refine r_region' ?_
      refine l_o (o_call Try.call18 rfl (awake_ret _) rfl ?_)
      rintro _ w10 ⟨rfl, hE10⟩
      replace hB := below_ext hB hE10 hsz
      replace hsz := Nat.le_trans hsz hE10.size
      refine l_q (q_assign (v := .bool _) rfl rfl) ?_
      refine l_nil ?_
      refine r_forget [(8, .bool _)] ⟨rfl, trivial⟩ (fun e11 => ?_)
      refine r_ret_ (vs := [.bool _]) rfl Try.func11 rfl (.nil _) ⟨rfl, trivial⟩ ?_
      exact ⟨rfl, Ext.of_below hB⟩
    · skip
      try simp only [decide_eq_true_eq, decide_eq_false_iff_not, Bool.not_eq_true', Bool.not_eq_false', Bool.not_not, Bool.not_true, Bool.not_false, Bool.not_eq_true, Bool.not_eq_false, Int.not_lt, Int.not_le, Bool.and_eq_true, Bool.or_eq_true, Bool.and_eq_false_iff, Bool.or_eq_false_iff] at hc9
      have hlf : listFault (L.map (·.xs)) = 0 := by simpa using hc9
      have hLp : 0 < L.length := lf_pos hlf
      obtain ⟨m, f, hm6, hf5, hd, hlow, hr6, hr5x⟩ := rep_eq hlf
      have hrf : repAll (L.map (·.xs)) = ((f : Int), (m : Int), 0) := by rw [rep_same hlf, hr6]
      refine r_skip ?_
      refine r_seq ?_
      refine r_region' ?_
      refine l_q (q_move (v := .slice _ _ _) rfl rfl) ?_
      refine l_o (o_call Try.call38 rfl (rows_ret _ _ L _ (hl.below hB) (hlr.below hB) (by omega) (by assumption)) rfl ?_)
      have hszp12 : w.heap.size ≤ w7.heap.size := hsz
      rintro _ w12 ⟨oa12, oc12, L12, rfl, ho12, hos12, hm12, hE12⟩
      replace ho12 := own_mono ho12 (show w.heap.size ≤ _ by omega)
      replace hB := below_ext hB hE12 hsz
      replace hsz := Nat.le_trans hsz hE12.size
      have hm := hm12
      have hm2 := sv_same hm hln hle
      refine l_o (o_call Try.call37 rfl ((by have h := frepeat_ret _ _ L12 _ (Row.of_owns ho12) hos12.rows hm2.1 hm2.2; rw [hm, hrf] at h; exact h)) rfl ?_)
      rintro _ w13 ⟨rfl, hE13⟩
      replace hB := below_ext hB hE13 hsz
      replace ho12 := own_ext ho12 hE13
      replace hos12 := hos12.ext hE13
      replace hsz := Nat.le_trans hsz hE13.size
      refine l_q (q_move (v := .tuple _) rfl rfl) ?_
      refine l_q (q_extract (vs := [_, _, _]) (v := .int _ _) rfl rfl rfl) ?_
      refine l_q (q_extract (vs := [_, _, _]) (v := .int _ _) rfl rfl rfl) ?_
      refine l_q (q_extract (vs := [_, _, _]) (v := .int _ _) rfl rfl rfl) ?_
      refine l_q (q_assign (v := .int _ _) rfl rfl) ?_
      refine l_q (q_assign (v := .int _ _) rfl rfl) ?_
      refine l_q (q_assign (v := .int _ _) rfl rfl) ?_
      refine l_nil ?_
      refine r_forget [(0, .slice _ _ _), (1, .int _ _), (2, .int _ _), (3, .int _ _), (9, .int _ _), (10, .int _ _), (11, .int _ _)] ⟨rfl, rfl, rfl, rfl, rfl, rfl, rfl, trivial⟩ (fun e14 => ?_)
      refine r_seq ?_
      refine r_seq ?_
      refine r_region' ?_
      refine l_q (q_move (v := .int _ _) rfl rfl) ?_
      refine l_q (q_neq rfl rfl rfl) ?_
      refine l_q (q_move (v := .bool _) rfl rfl) ?_
      have hk15 : (!decide (0 = 0)) = false := by simp
      refine l_part 38 rfl (fun hx => absurd (hk15.symm.trans hx) (by decide)) (fun _ => ?_)
      refine l_q (q_move (v := .int _ _) rfl rfl) ?_
      refine l_q (q_lss rfl rfl rfl) ?_
      refine l_q (q_pick_f (v := .bool _) rfl rfl rfl) ?_
      refine l_q (q_move (v := .bool _) rfl rfl) ?_
      have hk16 : (decide ((f : Int) < 0)) = false := by rw [decide_eq_false_iff_not]; omega
      refine l_part 42 rfl (fun hx => absurd (hk16.symm.trans hx) (by decide)) (fun _ => ?_)
      refine l_q (q_move (v := .int _ _) rfl rfl) ?_
      refine l_q (q_lss rfl rfl rfl) ?_
      refine l_q (q_pick_f (v := .bool _) rfl rfl rfl) ?_
      refine l_q (q_move (v := .bool _) rfl rfl) ?_
      have hk17 : (decide ((m : Int) < 0)) = false := by rw [decide_eq_false_iff_not]; omega
      refine l_part 46 rfl (fun hx => absurd (hk17.symm.trans hx) (by decide)) (fun _ => ?_)
      refine l_q (q_move (v := .int _ _) rfl rfl) ?_
      refine l_q (q_gtr rfl rfl rfl) ?_
      refine l_q (q_pick_f (v := .bool _) rfl rfl rfl) ?_
      refine l_q (q_move (v := .bool _) rfl rfl) ?_
      have hk18 : (decide (5 < (m : Int))) = false := by rw [decide_eq_false_iff_not]; omega
      refine l_part 50 rfl (fun hx => absurd (hk18.symm.trans hx) (by decide)) (fun _ => ?_)
      refine l_q (q_move (v := .slice _ _ _) rfl rfl) ?_
      refine l_q (q_move (v := .int _ _) rfl rfl) ?_
      refine l_q (q_move (v := .int _ _) rfl rfl) ?_
      refine l_o (o_call Try.call44 rfl (rdecides_ret _ _ L f m _ (hl.below hB) (hlr.below hB) (by omega) (by assumption) (by omega) (by omega)) rfl ?_)
      rintro _ w19 ⟨rfl, hE19⟩
      replace hB := below_ext hB hE19 hsz
      replace ho12 := own_ext ho12 hE19
      replace hos12 := hos12.ext hE19
      replace hsz := Nat.le_trans hsz hE19.size
      refine l_q (q_not rfl rfl) ?_
      refine l_q (q_pick_f (v := .bool _) rfl rfl rfl) ?_
      refine l_nil ?_
      refine r_forget [(0, .slice _ _ _), (1, .int _ _), (2, .int _ _), (3, .int _ _), (9, .int _ _), (10, .int _ _), (56, .bool _)] ⟨rfl, rfl, rfl, rfl, rfl, rfl, rfl, trivial⟩ (fun e20 => ?_)
      have hk21 : (!(decidesB (L.map (·.xs)) f m)) = false := by simp [hd]
      refine r_cond_f ((congrArg Value.bool hk21 : Value.bool _ = _)) ?_
      refine r_skip ?_
      refine r_seq ?_
      refine r_region' ?_
      refine l_q (q_move (v := .int _ _) rfl rfl) ?_
      refine l_q (q_toInt Try.underlying5 Try.underlying3 rfl (by omega) rfl) ?_
      refine l_q (q_move (v := .slice _ _ _) rfl rfl) ?_
      refine l_q (q_len rfl Try.underlying48 rfl rfl) ?_
      refine l_q (q_rem rfl rfl (by omega) rfl) ?_
      refine l_q (q_assign (v := .int _ _) rfl rfl) ?_
      refine l_nil ?_
      refine r_forget [(0, .slice _ _ _), (2, .int _ _), (3, .int _ _), (9, .int _ _), (10, .int _ _), (12, .int _ _)] ⟨rfl, rfl, rfl, rfl, rfl, rfl, trivial⟩ (fun e22 => ?_)
      refine r_seq ?_
      refine r_seq ?_
      obtain ⟨k, hk⟩ : ∃ k : Nat, wh % (L.length : Int) = k := ⟨(wh % (L.length : Int)).toNat, by have := Int.emod_nonneg wh (show (L.length : Int) ≠ 0 by omega); omega⟩
      have hkL : k < L.length := by have := Int.emod_lt_of_pos wh (show (0 : Int) < L.length by omega); omega
      refine r_forget [(0, .slice _ _ _), (2, .int _ _), (3, .int _ _), (9, .int _ _), (10, .int _ _), (12, vint (k : Int))] ⟨rfl, rfl, rfl, rfl, rfl, vint_eq hk, trivial⟩ (fun e23 => ?_)
      refine r_region' ?_
      refine l_q (q_assign (v := .int _ _) rfl rfl) ?_
      refine l_nil ?_
      refine r_block ?_
      refine r_rounds (α := Nat) (fun i e wl => Knows e [(0, .slice la L.length lc), (2, .int .u8 fr), (3, .int .u8 ma), (9, vint (f : Int)), (10, vint (m : Int)), (12, vint (k : Int)), (13, vint (i : Int))] ∧ (i ≤ L.length) ∧ (wl.ownsRow w.heap.size 25 1 (.slice oa12 ((L12).length) oc12) ((L12).length) ((L12).map SV.enc)) ∧ (OwnsI wl w7.heap.size 3 L12) ∧ (w.heap.size ≤ wl.heap.size) ∧ (Below w.heap.size w wl)) (fun i => L.length - i) 0 ?_ ?_
      · skip
        exact ⟨⟨rfl, rfl, rfl, rfl, rfl, rfl, rfl, trivial⟩, (Nat.zero_le _), ho12, hos12, hsz, hB⟩
      · skip
        rintro i el24 wl24 ⟨hkn, hki, ho12, hos12, hsz, hB⟩ ih24
        obtain ⟨e24, rfl⟩ := knows_env hkn
        refine r_seq ?_
        refine r_seq ?_
        refine r_region' ?_
        refine l_q (q_move (v := .int _ _) rfl rfl) ?_
        refine l_q (q_move (v := .slice _ _ _) rfl rfl) ?_
        refine l_q (q_len rfl Try.underlying48 rfl rfl) ?_
        refine l_q (q_lss rfl rfl rfl) ?_
        refine l_nil ?_
        refine r_forget [(0, .slice _ _ _), (2, .int _ _), (3, .int _ _), (9, .int _ _), (10, .int _ _), (12, .int _ _), (13, .int _ _), (65, .bool _)] ⟨rfl, rfl, rfl, rfl, rfl, rfl, rfl, rfl, trivial⟩ (fun e25 => ?_)
        refine r_cond rfl (fun hc26 => ?_) (fun hc26 => ?_)
        · skip
          try simp only [decide_eq_true_eq, decide_eq_false_iff_not, Bool.not_eq_true', Bool.not_eq_false', Bool.not_not, Bool.not_true, Bool.not_false, Bool.not_eq_true, Bool.not_eq_false, Int.not_lt, Int.not_le, Bool.and_eq_true, Bool.or_eq_true, Bool.and_eq_false_iff, Bool.or_eq_false_iff] at hc26
          have hil : i < L.length := by omega
          have hel := hle _ (getD_lt (d := sv0) hil)
          have hek := hle _ (getD_lt (d := sv0) hkL)
          refine r_skip ?_
          refine r_seq ?_
          refine r_block ?_
          refine r_seq ?_
          refine r_draw ext_refl' ext_trans' [0, 1, 2, 3, 4, 5, 6, 7, 8, 9, 11, 12, 13, 14, 15, 16, 10, 17, 18, 19] [10, 17, 18] 4 (by kernel_rfl) (by kernel_rfl) ?_
          intro w27 _ hE27
          replace hB := below_ext hB hE27 hsz
          replace ho12 := own_ext ho12 hE27
          replace hos12 := hos12.ext hE27
          replace hsz := Nat.le_trans hsz hE27.size
          refine m_q rfl rfl (fun w' hC' => q_move (v := .int _ _) rfl rfl) ?_
          refine m_q rfl rfl (fun w' hC' => q_move (v := .int _ _) rfl rfl) ?_
          refine m_q rfl rfl (fun w' hC' => q_neq rfl rfl rfl) ?_
          refine m_q rfl rfl (fun w' hC' => q_move (v := .bool _) rfl rfl) ?_
          refine m_part 71 rfl (fun hc28 => ?_) (fun hc28 => ?_)
          · skip
            try simp only [decide_eq_true_eq, decide_eq_false_iff_not, Bool.not_eq_true', Bool.not_eq_false', Bool.not_not, Bool.not_true, Bool.not_false, Bool.not_eq_true, Bool.not_eq_false, Int.not_lt, Int.not_le, Bool.and_eq_true, Bool.or_eq_true, Bool.and_eq_false_iff, Bool.or_eq_false_iff] at hc28
            refine m_q rfl rfl (fun w' hC' => q_move (v := .slice _ _ _) rfl rfl) ?_
            refine m_q rfl rfl (fun w' hC' => q_move (v := .int _ _) rfl rfl) ?_
            have hr30 := (hlr.below hB).get (i := i) (by omega)
            obtain ⟨b29, o29, ha29, hh29⟩ := (hl.below hB).at1 i ((L).getD i sv0) (getD_some (by omega))
            refine m_q rfl rfl (fun w' hC' => q_indexAddr1 Try.underlying48 Try.sizeOf25 rfl ha29 rfl (by omega) rfl) ?_
            refine m_q rfl rfl (fun w' hC' => q_load Try.isAgg25 rfl ((hh29.ext hC')) rfl) ?_
            refine m_q rfl rfl (fun w' hC' => q_move (v := .int _ _) rfl rfl) ?_
            refine m_q rfl rfl (fun w' hC' => q_move (v := .int _ _) rfl rfl) ?_
            refine m_q rfl rfl (fun w' hC' => q_move (v := .slice _ _ _) rfl rfl) ?_
            refine m_q rfl rfl (fun w' hC' => q_move (v := .int _ _) rfl rfl) ?_
            have hr32 := (hlr.below hB).get (i := k) (by omega)
            obtain ⟨b31, o31, ha31, hh31⟩ := (hl.below hB).at1 k ((L).getD k sv0) (getD_some (by omega))
            refine m_q rfl rfl (fun w' hC' => q_indexAddr1 Try.underlying48 Try.sizeOf25 rfl ha31 rfl (by omega) rfl) ?_
            refine m_q rfl rfl (fun w' hC' => q_load Try.isAgg25 rfl ((hh31.ext hC')) rfl) ?_
            refine m_q rfl rfl (fun w' hC' => q_move (v := .int _ _) rfl rfl) ?_
            refine m_q rfl rfl (fun w' hC' => q_move (v := .int _ _) rfl rfl) ?_
            refine m_o rfl rfl (o_call Try.call45 rfl (rpart_ret _ _ (((L).getD i sv0).xs) f m _ hr30 (by omega) (by omega) (by omega)) rfl ?_)
            rintro _ w33 ⟨a33_0, c33_0, rfl, ho33_0, hE33⟩
            replace ho33_0 := own_mono ho33_0 (show w.heap.size ≤ _ by omega)
            refine ⟨hE33, ?_⟩
            replace hB := below_ext hB hE33 hsz
            replace ho12 := own_ext ho12 hE33
            replace hos12 := hos12.ext hE33
            replace hr30 := hr30.ext hE33
            replace hr32 := hr32.ext hE33
            replace hsz := Nat.le_trans hsz hE33.size
            refine m_o rfl rfl (o_call Try.call45 rfl (rpart_ret _ _ (((L).getD k sv0).xs) f m _ hr32 (by omega) (by omega) (by omega)) rfl ?_)
            rintro _ w34 ⟨a34_0, c34_0, rfl, ho34_0, hE34⟩
            replace ho34_0 := own_mono ho34_0 (show w.heap.size ≤ _ by omega)
            refine ⟨hE34, ?_⟩
            replace hB := below_ext hB hE34 hsz
            replace ho12 := own_ext ho12 hE34
            replace hos12 := hos12.ext hE34
            replace hr30 := hr30.ext hE34
            replace hr32 := hr32.ext hE34
            replace ho33_0 := own_ext ho33_0 hE34
            replace hsz := Nat.le_trans hsz hE34.size
            refine m_o rfl rfl (o_call Try.call30 rfl (same_ret _ _ (part (((L).getD i sv0).xs) f m) _ _ (part (((L).getD k sv0).xs) f m) _ (Row.of_owns ho33_0) (Nat.le_trans (part_m _ _ _) (by omega)) (Row.of_owns ho34_0) (Nat.le_trans (part_m _ _ _) (by omega))) rfl ?_)
            rintro _ w35 ⟨rfl, hE35⟩
            refine ⟨hE35, ?_⟩
            replace hB := below_ext hB hE35 hsz
            replace ho12 := own_ext ho12 hE35
            replace hos12 := hos12.ext hE35
            replace hr30 := hr30.ext hE35
            replace hr32 := hr32.ext hE35
            replace ho33_0 := own_ext ho33_0 hE35
            replace ho34_0 := own_ext ho34_0 hE35
            replace hsz := Nat.le_trans hsz hE35.size
            refine m_q rfl rfl (fun w' hC' => q_pick_t (v := .bool _) rfl rfl rfl) ?_
            refine m_nil ?_
            refine r_forget [(0, .slice _ _ _), (2, .int _ _), (3, .int _ _), (9, .int _ _), (10, .int _ _), (12, .int _ _), (13, .int _ _), (87, .bool _)] ⟨rfl, rfl, rfl, rfl, rfl, rfl, rfl, rfl, trivial⟩ (fun e36 => ?_)
            have hk37 : (decide ((part (((L).getD i sv0).xs) f m) = (part (((L).getD k sv0).xs) f m))) = false := by rw [decide_eq_false_iff_not]; exact dec_ne hd hil hkL (by omega)
            refine r_cond_f ((congrArg Value.bool hk37 : Value.bool _ = _)) ?_
            refine r_skip ?_
            refine r_inBlock ?_
            refine r_region' ?_
            refine l_q (q_move (v := .int _ _) rfl rfl) ?_
            refine l_q (q_add rfl rfl (by omega) rfl) ?_
            refine l_q (q_assign (v := .int _ _) rfl rfl) ?_
            refine l_nil ?_
            refine r_forget [(0, .slice _ _ _), (2, .int _ _), (3, .int _ _), (9, .int _ _), (10, .int _ _), (12, .int _ _), (13, .int _ _)] ⟨rfl, rfl, rfl, rfl, rfl, rfl, rfl, trivial⟩ (fun e38 => ?_)
            exact ih24 (i + 1) _ _ ⟨⟨rfl, rfl, rfl, rfl, rfl, rfl, by first | rfl | exact vint_eq (by omega), trivial⟩, (by omega), ho12, hos12, hsz, hB⟩ (by first | omega | (dsimp only; omega))
          · skip
            try simp only [decide_eq_true_eq, decide_eq_false_iff_not, Bool.not_eq_true', Bool.not_eq_false', Bool.not_not, Bool.not_true, Bool.not_false, Bool.not_eq_true, Bool.not_eq_false, Int.not_lt, Int.not_le, Bool.and_eq_true, Bool.or_eq_true, Bool.and_eq_false_iff, Bool.or_eq_false_iff] at hc28
            refine m_q rfl rfl (fun w' hC' => q_skip rfl) ?_
            refine m_q rfl rfl (fun w' hC' => q_skip rfl) ?_
            refine m_q rfl rfl (fun w' hC' => q_skip rfl) ?_
            refine m_q rfl rfl (fun w' hC' => q_skip rfl) ?_
            refine m_q rfl rfl (fun w' hC' => q_skip rfl) ?_
            refine m_q rfl rfl (fun w' hC' => q_skip rfl) ?_
            refine m_q rfl rfl (fun w' hC' => q_skip rfl) ?_
            refine m_q rfl rfl (fun w' hC' => q_skip rfl) ?_
            refine m_q rfl rfl (fun w' hC' => q_skip rfl) ?_
            refine m_q rfl rfl (fun w' hC' => q_skip rfl) ?_
            refine m_q rfl rfl (fun w' hC' => q_skip rfl) ?_
            refine m_q rfl rfl (fun w' hC' => q_skip rfl) ?_
            refine m_o rfl rfl ((q_skip rfl).eff ⟨Ext.refl _, ?_⟩)
            refine m_o rfl rfl ((q_skip rfl).eff ⟨Ext.refl _, ?_⟩)
            refine m_o rfl rfl ((q_skip rfl).eff ⟨Ext.refl _, ?_⟩)
            refine m_q rfl rfl (fun w' hC' => q_pick_f (v := .bool _) rfl rfl rfl) ?_
            refine m_nil ?_
            refine r_forget [(0, .slice _ _ _), (2, .int _ _), (3, .int _ _), (9, .int _ _), (10, .int _ _), (12, .int _ _), (13, .int _ _), (87, .bool _)] ⟨rfl, rfl, rfl, rfl, rfl, rfl, rfl, rfl, trivial⟩ (fun e39 => ?_)
            refine r_cond_f rfl ?_
            refine r_skip ?_
            refine r_inBlock ?_
            refine r_region' ?_
            refine l_q (q_move (v := .int _ _) rfl rfl) ?_
            refine l_q (q_add rfl rfl (by omega) rfl) ?_
            refine l_q (q_assign (v := .int _ _) rfl rfl) ?_
            refine l_nil ?_
            refine r_forget [(0, .slice _ _ _), (2, .int _ _), (3, .int _ _), (9, .int _ _), (10, .int _ _), (12, .int _ _), (13, .int _ _)] ⟨rfl, rfl, rfl, rfl, rfl, rfl, rfl, trivial⟩ (fun e40 => ?_)
            exact ih24 (i + 1) _ _ ⟨⟨rfl, rfl, rfl, rfl, rfl, rfl, by first | rfl | exact vint_eq (by omega), trivial⟩, (by omega), ho12, hos12, hsz, hB⟩ (by first | omega | (dsimp only; omega))
        · skip
          try simp only [decide_eq_true_eq, decide_eq_false_iff_not, Bool.not_eq_true', Bool.not_eq_false', Bool.not_not, Bool.not_true, Bool.not_false, Bool.not_eq_true, Bool.not_eq_false, Int.not_lt, Int.not_le, Bool.and_eq_true, Bool.or_eq_true, Bool.and_eq_false_iff, Bool.or_eq_false_iff] at hc26
          refine r_exit rfl ?_
          refine r_seq ?_
          refine r_region' ?_
          refine l_q (q_move (v := .int _ _) rfl rfl) ?_
          refine l_q (q_toInt Try.underlying5 Try.underlying3 rfl (by omega) rfl) ?_
          refine l_q (q_rem rfl rfl (by omega) rfl) ?_
          refine l_q (q_move (v := .int _ _) rfl rfl) ?_
          refine l_q (q_toInt Try.underlying5 Try.underlying3 rfl (by omega) rfl) ?_
          refine l_q (q_rem rfl rfl (by omega) rfl) ?_
          refine l_q (q_assign (v := .int _ _) rfl rfl) ?_
          refine l_q (q_assign (v := .int _ _) rfl rfl) ?_
          refine l_nil ?_
          refine r_forget [(0, .slice _ _ _), (9, .int _ _), (10, .int _ _), (12, .int _ _), (14, .int _ _), (15, .int _ _)] ⟨rfl, rfl, rfl, rfl, rfl, rfl, trivial⟩ (fun e41 => ?_)
          refine r_seq ?_
          refine r_seq ?_
          obtain ⟨b, hb⟩ : ∃ b : Nat, fr % 6 = b := ⟨(fr % 6).toNat, by omega⟩
          obtain ⟨n, hn⟩ : ∃ n : Nat, ma % 6 = n := ⟨(ma % 6).toNat, by omega⟩
          have hb6 : b < 6 := by omega
          have hn6 : n < 6 := by omega
          refine r_forget [(0, .slice _ _ _), (9, .int _ _), (10, .int _ _), (12, .int _ _), (14, vint (b : Int)), (15, vint (n : Int))] ⟨rfl, rfl, rfl, rfl, vint_eq hb, vint_eq hn, trivial⟩ (fun e42 => ?_)
          refine r_region' ?_
          refine l_q (q_move (v := .int _ _) rfl rfl) ?_
          refine l_q (q_move (v := .int _ _) rfl rfl) ?_
          refine l_q (q_lss rfl rfl rfl) ?_
          refine l_q (q_move (v := .bool _) rfl rfl) ?_
          refine l_part 97 rfl (fun hc43 => ?_) (fun hc43 => ?_)
          · skip
            try simp only [decide_eq_true_eq, decide_eq_false_iff_not, Bool.not_eq_true', Bool.not_eq_false', Bool.not_not, Bool.not_true, Bool.not_false, Bool.not_eq_true, Bool.not_eq_false, Int.not_lt, Int.not_le, Bool.and_eq_true, Bool.or_eq_true, Bool.and_eq_false_iff, Bool.or_eq_false_iff] at hc43
            refine l_q (q_skip rfl) ?_
            refine l_q (q_skip rfl) ?_
            refine l_q (q_skip rfl) ?_
            refine l_q (q_skip rfl) ?_
            refine l_q (q_skip rfl) ?_
            refine l_q (q_skip rfl) ?_
            refine l_q (q_skip rfl) ?_
            refine l_q (q_skip rfl) ?_
            refine l_q (q_pick_t (v := .bool _) rfl rfl rfl) ?_
            refine l_q (q_move (v := .bool _) rfl rfl) ?_
            refine l_q (q_move (v := .slice _ _ _) rfl rfl) ?_
            refine l_q (q_move (v := .int _ _) rfl rfl) ?_
            refine l_q (q_move (v := .int _ _) rfl rfl) ?_
            refine l_o (o_call Try.call44 rfl (rdecides_ret _ _ L b n _ (hl.below hB) (hlr.below hB) (by omega) (by assumption) (by omega) (by omega)) rfl ?_)
            rintro _ w44 ⟨rfl, hE44⟩
            replace hB := below_ext hB hE44 hsz
            replace ho12 := own_ext ho12 hE44
            replace hos12 := hos12.ext hE44
            replace hsz := Nat.le_trans hsz hE44.size
            refine l_q (q_pick_t (v := .bool _) rfl rfl rfl) ?_
            refine l_nil ?_
            refine r_forget [(0, .slice _ _ _), (9, .int _ _), (10, .int _ _), (12, .int _ _), (112, .bool _)] ⟨rfl, rfl, rfl, rfl, rfl, trivial⟩ (fun e45 => ?_)
            have hk46 : (decidesB (L.map (·.xs)) b n) = false := hlow n b hb6 (by omega)
            refine r_cond_f ((congrArg Value.bool hk46 : Value.bool _ = _)) ?_
            refine r_skip ?_
            refine r_seq ?_
            refine r_draw ext_refl' ext_trans' [0, 1, 2, 4, 5, 6, 7, 3, 8, 9] [3, 8, 1008] 4 (by kernel_rfl) (by kernel_rfl) ?_
            intro w47 _ hE47
            replace hB := below_ext hB hE47 hsz
            replace ho12 := own_ext ho12 hE47
            replace hos12 := hos12.ext hE47
            replace hsz := Nat.le_trans hsz hE47.size
            refine m_q rfl rfl (fun w' hC' => q_move (v := .slice _ _ _) rfl rfl) ?_
            refine m_q rfl rfl (fun w' hC' => q_move (v := .int _ _) rfl rfl) ?_
            obtain ⟨a48, c48, hr48, hv48⟩ := slice_ex_hi (f := SV.enc) (xs := L) ((k : Int)) (hl.below hB) (by omega)
            refine m_q rfl rfl (fun w' hC' => (q_slice (lo := 0) (hi := (k : Int)) Try.underlying48 Try.sizeOf25 rfl rfl rfl (by omega) (hl.below hB).2.1 rfl).cast hv48) ?_
            have hrs48 := (hlr.below hB).take k
            refine m_q rfl rfl (fun w' hC' => q_move (v := .slice _ _ _) rfl rfl) ?_
            refine m_q rfl rfl (fun w' hC' => q_move (v := .int _ _) rfl rfl) ?_
            refine m_q rfl rfl (fun w' hC' => q_add rfl rfl (by omega) rfl) ?_
            obtain ⟨a49, c49, hr49, hv49⟩ := slice_ex_lo (f := SV.enc) (xs := L) ((k : Int) + 1) (hl.below hB) (by omega)
            refine m_q rfl rfl (fun w' hC' => (q_slice (lo := (k : Int) + 1) (hi := (L.length : Int)) Try.underlying48 Try.sizeOf25 rfl rfl rfl (by omega) (hl.below hB).2.1 rfl).cast hv49) ?_
            have hrs49 := (hlr.below hB).drop (((k : Int) + 1).toNat)
            refine m_o rfl rfl (o_call Try.call38 rfl (rows_ret _ _ ((L).take k) _ hr48 hrs48 (by rw [List.length_take]; omega) (fun s hs => hle s (List.mem_of_mem_take hs))) rfl ?_)
            have hszp50 : w.heap.size ≤ w47.heap.size := hsz
            rintro _ w50 ⟨oa50, oc50, L50, rfl, ho50, hos50, hm50, hE50⟩
            replace ho50 := own_mono ho50 (show w.heap.size ≤ _ by omega)
            refine ⟨hE50, ?_⟩
            replace hB := below_ext hB hE50 hsz
            replace ho12 := own_ext ho12 hE50
            replace hos12 := hos12.ext hE50
            replace hrs48 := hrs48.ext hE50
            replace hr48 := hr48.ext hE50
            replace hrs49 := hrs49.ext hE50
            replace hr49 := hr49.ext hE50
            replace hsz := Nat.le_trans hsz hE50.size
            have hm3 := hm50
            have hl3 := sv_len hm3
            rw [List.length_take] at hl3
            refine m_last rfl rfl rfl (o_append_map (f := SV.enc) (L50) ((L).drop ((k : Int) + 1).toNat) Try.underlying48 el25 rfl rfl ho50 rfl hr49 (fun _ => rfl) (by (try simp only [List.length_append, List.length_cons, List.length_nil, List.length_take, List.length_drop, List.length_replicate]); omega) (by omega) rfl ?_)
            intro a51 c51 w51 hz51 ho51 hG51
            replace hB := below_own hB hG51 ho50 (by omega) hsz
            replace hsz := Nat.le_trans hsz hG51.size
            replace hos12 := hos12.kept ho50 (by decide) hG51
            replace hos50 := hos50.kept ho50 (by decide) hG51
            refine m_q rfl rfl (fun w' hC' => q_assign (v := .slice _ _ _) rfl rfl) ?_
            refine m_nil ?_
            refine r_forget [(9, .int _ _), (10, .int _ _), (16, .slice _ _ _)] ⟨rfl, rfl, rfl, trivial⟩ (fun e52 => ?_)
            refine r_seq ?_
            refine r_seq ?_
            refine r_region' ?_
            refine l_q (q_move (v := .slice _ _ _) rfl rfl) ?_
            refine l_q (q_len rfl Try.underlying48 rfl rfl) ?_
            refine l_q (q_eql rfl rfl rfl) ?_
            refine l_nil ?_
            refine r_forget [(9, .int _ _), (10, .int _ _), (16, .slice _ _ _), (124, .bool _)] ⟨rfl, rfl, rfl, rfl, trivial⟩ (fun e53 => ?_)
            refine r_cond rfl (fun hc54 => ?_) (fun hc54 => ?_)
            · skip
              try simp only [decide_eq_true_eq, decide_eq_false_iff_not, Bool.not_eq_true', Bool.not_eq_false', Bool.not_not, Bool.not_true, Bool.not_false, Bool.not_eq_true, Bool.not_eq_false, Int.not_lt, Int.not_le, Bool.and_eq_true, Bool.or_eq_true, Bool.and_eq_false_iff, Bool.or_eq_false_iff] at hc54
              have hone := rep_one hlf hd hlow (by rw [List.length_map]; have h := hc54; rw [List.length_append, List.length_drop, hl3] at h; omega)
              refine r_seq ?_
              refine r_region' ?_
              refine l_q (q_move (v := .int _ _) rfl rfl) ?_
              refine l_q (q_eql rfl rfl rfl) ?_
              refine l_q (q_move (v := .bool _) rfl rfl) ?_
              have hk55 : (decide ((f : Int) = 0)) = true := by rw [decide_eq_true_eq]; omega
              refine l_part 127 rfl (fun _ => ?_) (fun hx => absurd (hk55.symm.trans hx) (by decide))
              refine l_q (q_move (v := .int _ _) rfl rfl) ?_
              refine l_q (q_eql rfl rfl rfl) ?_
              refine l_q (q_pick_t (v := .bool _) rfl rfl rfl) ?_
              refine l_q (q_move (v := .bool _) rfl rfl) ?_
              have hk56 : (decide ((m : Int) = 0)) = true := by rw [decide_eq_true_eq]; omega
              refine l_part 131 rfl (fun _ => ?_) (fun hx => absurd (hk56.symm.trans hx) (by decide))
              refine l_o (o_call Try.call18 rfl (awake_ret _) rfl ?_)
              rintro _ w57 ⟨rfl, hE57⟩
              replace hB := below_ext hB hE57 hsz
              replace hos12 := hos12.ext hE57
              replace hos50 := hos50.ext hE57
              replace ho51 := own_ext ho51 hE57
              replace hsz := Nat.le_trans hsz hE57.size
              refine l_q (q_pick_t (v := .bool _) rfl rfl rfl) ?_
              refine l_q (q_assign (v := .bool _) rfl rfl) ?_
              refine l_nil ?_
              refine r_forget [(8, .bool _)] ⟨rfl, trivial⟩ (fun e58 => ?_)
              refine r_ret_ (vs := [.bool _]) rfl Try.func11 rfl (.nil _) ⟨rfl, trivial⟩ ?_
              exact ⟨rfl, Ext.of_below hB⟩
            · skip
              try simp only [decide_eq_true_eq, decide_eq_false_iff_not, Bool.not_eq_true', Bool.not_eq_false', Bool.not_not, Bool.not_true, Bool.not_false, Bool.not_eq_true, Bool.not_eq_false, Int.not_lt, Int.not_le, Bool.and_eq_true, Bool.or_eq_true, Bool.and_eq_false_iff, Bool.or_eq_false_iff] at hc54
              have hne5 : 1 < L.length := by have h := hc54; rw [List.length_append, List.length_drop, hl3] at h; omega
              obtain ⟨m5, f5, hr5, hm5le⟩ := rep_less (k := k) hlf hd hm6 hf5 hkL hne5
              refine r_skip ?_
              refine r_seq ?_
              refine r_region' ?_
              refine l_q (q_move (v := .slice _ _ _) rfl rfl) ?_
              refine l_o (o_call Try.call38 rfl (rows_ret _ _ (L50 ++ ((L).drop ((k : Int) + 1).toNat)) _ (Row.of_owns ho51) (rowsI_append hos50.rows ((hlr.below hB).drop (k + 1))) (by rw [List.length_append, List.length_drop]; omega) (sv_app hm3 hle)) rfl ?_)
              have hszp59 : w.heap.size ≤ w51.heap.size := hsz
              rintro _ w59 ⟨oa59, oc59, L59, rfl, ho59, hos59, hm59, hE59⟩
              replace ho59 := own_mono ho59 (show w.heap.size ≤ _ by omega)
              replace hB := below_ext hB hE59 hsz
              replace hos12 := hos12.ext hE59
              replace hos50 := hos50.ext hE59
              replace ho51 := own_ext ho51 hE59
              replace hsz := Nat.le_trans hsz hE59.size
              have hm5 := hm59
              have hm5t := hm59.trans (sv_map5 (k := k) hm3)
              refine l_o (o_call Try.call37 rfl ((by have h := frepeat_ret _ _ L59 _ (Row.of_owns ho59) hos59.rows (sv_le5 hm5 hm3 hln hle).1 (sv_le5 hm5 hm3 hln hle).2; rw [hm5t, hr5] at h; exact h)) rfl ?_)
              rintro _ w60 ⟨rfl, hE60⟩
              replace hB := below_ext hB hE60 hsz
              replace hos12 := hos12.ext hE60
              replace hos50 := hos50.ext hE60
              replace ho51 := own_ext ho51 hE60
              replace ho59 := own_ext ho59 hE60
              replace hos59 := hos59.ext hE60
              replace hsz := Nat.le_trans hsz hE60.size
              refine l_q (q_move (v := .tuple _) rfl rfl) ?_
              refine l_q (q_extract (vs := [_, _, _]) (v := .int _ _) rfl rfl rfl) ?_
              refine l_q (q_extract (vs := [_, _, _]) (v := .int _ _) rfl rfl rfl) ?_
              refine l_q (q_extract (vs := [_, _, _]) (v := .int _ _) rfl rfl rfl) ?_
              refine l_q (q_assign (v := .int _ _) rfl rfl) ?_
              refine l_q (q_assign (v := .int _ _) rfl rfl) ?_
              refine l_q (q_assign (v := .int _ _) rfl rfl) ?_
              refine l_nil ?_
              refine r_forget [(10, .int _ _), (18, .int _ _), (19, .int _ _)] ⟨rfl, rfl, rfl, trivial⟩ (fun e61 => ?_)
              refine r_seq ?_
              refine r_region' ?_
              refine l_q (q_move (v := .int _ _) rfl rfl) ?_
              refine l_q (q_eql rfl rfl rfl) ?_
              refine l_q (q_move (v := .bool _) rfl rfl) ?_
              have hk62 : (decide (0 = 0)) = true := by simp
              refine l_part 143 rfl (fun _ => ?_) (fun hx => absurd (hk62.symm.trans hx) (by decide))
              refine l_q (q_move (v := .int _ _) rfl rfl) ?_
              refine l_q (q_move (v := .int _ _) rfl rfl) ?_
              refine l_q (q_leq rfl rfl rfl) ?_
              refine l_q (q_pick_t (v := .bool _) rfl rfl rfl) ?_
              refine l_q (q_move (v := .bool _) rfl rfl) ?_
              have hk63 : (decide ((m5 : Int) ≤ (m : Int))) = true := by rw [decide_eq_true_eq]; omega
              refine l_part 148 rfl (fun _ => ?_) (fun hx => absurd (hk63.symm.trans hx) (by decide))
              refine l_o (o_call Try.call18 rfl (awake_ret _) rfl ?_)
              rintro _ w64 ⟨rfl, hE64⟩
              replace hB := below_ext hB hE64 hsz
              replace hos12 := hos12.ext hE64
              replace hos50 := hos50.ext hE64
              replace ho51 := own_ext ho51 hE64
              replace ho59 := own_ext ho59 hE64
              replace hos59 := hos59.ext hE64
              replace hsz := Nat.le_trans hsz hE64.size
              refine l_q (q_pick_t (v := .bool _) rfl rfl rfl) ?_
              refine l_q (q_assign (v := .bool _) rfl rfl) ?_
              refine l_nil ?_
              refine r_forget [(8, .bool _)] ⟨rfl, trivial⟩ (fun e65 => ?_)
              refine r_ret_ (vs := [.bool _]) rfl Try.func11 rfl (.nil _) ⟨rfl, trivial⟩ ?_
              exact ⟨rfl, Ext.of_below hB⟩
          · skip
            try simp only [decide_eq_true_eq, decide_eq_false_iff_not, Bool.not_eq_true', Bool.not_eq_false', Bool.not_not, Bool.not_true, Bool.not_false, Bool.not_eq_true, Bool.not_eq_false, Int.not_lt, Int.not_le, Bool.and_eq_true, Bool.or_eq_true, Bool.and_eq_false_iff, Bool.or_eq_false_iff] at hc43
            refine l_q (q_move (v := .int _ _) rfl rfl) ?_
            refine l_q (q_move (v := .int _ _) rfl rfl) ?_
            refine l_q (q_eql rfl rfl rfl) ?_
            refine l_q (q_move (v := .bool _) rfl rfl) ?_
            refine l_part 101 rfl (fun hc66 => ?_) (fun hc66 => ?_)
            · skip
              try simp only [decide_eq_true_eq, decide_eq_false_iff_not, Bool.not_eq_true', Bool.not_eq_false', Bool.not_not, Bool.not_true, Bool.not_false, Bool.not_eq_true, Bool.not_eq_false, Int.not_lt, Int.not_le, Bool.and_eq_true, Bool.or_eq_true, Bool.and_eq_false_iff, Bool.or_eq_false_iff] at hc66
              refine l_q (q_move (v := .int _ _) rfl rfl) ?_
              refine l_q (q_move (v := .int _ _) rfl rfl) ?_
              refine l_q (q_lss rfl rfl rfl) ?_
              refine l_q (q_pick_t (v := .bool _) rfl rfl rfl) ?_
              refine l_q (q_pick_f (v := .bool _) rfl rfl rfl) ?_
              refine l_q (q_move (v := .bool _) rfl rfl) ?_
              refine l_part 107 rfl (fun hc67 => ?_) (fun hc67 => ?_)
              · skip
                try simp only [decide_eq_true_eq, decide_eq_false_iff_not, Bool.not_eq_true', Bool.not_eq_false', Bool.not_not, Bool.not_true, Bool.not_false, Bool.not_eq_true, Bool.not_eq_false, Int.not_lt, Int.not_le, Bool.and_eq_true, Bool.or_eq_true, Bool.and_eq_false_iff, Bool.or_eq_false_iff] at hc67
                refine l_q (q_move (v := .slice _ _ _) rfl rfl) ?_
                refine l_q (q_move (v := .int _ _) rfl rfl) ?_
                refine l_q (q_move (v := .int _ _) rfl rfl) ?_
                refine l_o (o_call Try.call44 rfl (rdecides_ret _ _ L b n _ (hl.below hB) (hlr.below hB) (by omega) (by assumption) (by omega) (by omega)) rfl ?_)
                rintro _ w68 ⟨rfl, hE68⟩
                replace hB := below_ext hB hE68 hsz
                replace ho12 := own_ext ho12 hE68
                replace hos12 := hos12.ext hE68
                replace hsz := Nat.le_trans hsz hE68.size
                refine l_q (q_pick_t (v := .bool _) rfl rfl rfl) ?_
                refine l_nil ?_
                refine r_forget [(0, .slice _ _ _), (9, .int _ _), (10, .int _ _), (12, .int _ _), (112, .bool _)] ⟨rfl, rfl, rfl, rfl, rfl, trivial⟩ (fun e69 => ?_)
                have hk70 : (decidesB (L.map (·.xs)) b n) = false := hlow n b hb6 (by omega)
                refine r_cond_f ((congrArg Value.bool hk70 : Value.bool _ = _)) ?_
                refine r_skip ?_
                refine r_seq ?_
                refine r_draw ext_refl' ext_trans' [0, 1, 2, 4, 5, 6, 7, 3, 8, 9] [3, 8, 1008] 4 (by kernel_rfl) (by kernel_rfl) ?_
                intro w71 _ hE71
                replace hB := below_ext hB hE71 hsz
                replace ho12 := own_ext ho12 hE71
                replace hos12 := hos12.ext hE71
                replace hsz := Nat.le_trans hsz hE71.size
                refine m_q rfl rfl (fun w' hC' => q_move (v := .slice _ _ _) rfl rfl) ?_
                refine m_q rfl rfl (fun w' hC' => q_move (v := .int _ _) rfl rfl) ?_
                obtain ⟨a72, c72, hr72, hv72⟩ := slice_ex_hi (f := SV.enc) (xs := L) ((k : Int)) (hl.below hB) (by omega)
                refine m_q rfl rfl (fun w' hC' => (q_slice (lo := 0) (hi := (k : Int)) Try.underlying48 Try.sizeOf25 rfl rfl rfl (by omega) (hl.below hB).2.1 rfl).cast hv72) ?_
                have hrs72 := (hlr.below hB).take k
                refine m_q rfl rfl (fun w' hC' => q_move (v := .slice _ _ _) rfl rfl) ?_
                refine m_q rfl rfl (fun w' hC' => q_move (v := .int _ _) rfl rfl) ?_
                refine m_q rfl rfl (fun w' hC' => q_add rfl rfl (by omega) rfl) ?_
                obtain ⟨a73, c73, hr73, hv73⟩ := slice_ex_lo (f := SV.enc) (xs := L) ((k : Int) + 1) (hl.below hB) (by omega)
                refine m_q rfl rfl (fun w' hC' => (q_slice (lo := (k : Int) + 1) (hi := (L.length : Int)) Try.underlying48 Try.sizeOf25 rfl rfl rfl (by omega) (hl.below hB).2.1 rfl).cast hv73) ?_
                have hrs73 := (hlr.below hB).drop (((k : Int) + 1).toNat)
                refine m_o rfl rfl (o_call Try.call38 rfl (rows_ret _ _ ((L).take k) _ hr72 hrs72 (by rw [List.length_take]; omega) (fun s hs => hle s (List.mem_of_mem_take hs))) rfl ?_)
                have hszp74 : w.heap.size ≤ w71.heap.size := hsz
                rintro _ w74 ⟨oa74, oc74, L74, rfl, ho74, hos74, hm74, hE74⟩
                replace ho74 := own_mono ho74 (show w.heap.size ≤ _ by omega)
                refine ⟨hE74, ?_⟩
                replace hB := below_ext hB hE74 hsz
                replace ho12 := own_ext ho12 hE74
                replace hos12 := hos12.ext hE74
                replace hrs72 := hrs72.ext hE74
                replace hr72 := hr72.ext hE74
                replace hrs73 := hrs73.ext hE74
                replace hr73 := hr73.ext hE74
                replace hsz := Nat.le_trans hsz hE74.size
                have hm3 := hm74
                have hl3 := sv_len hm3
                rw [List.length_take] at hl3
                refine m_last rfl rfl rfl (o_append_map (f := SV.enc) (L74) ((L).drop ((k : Int) + 1).toNat) Try.underlying48 el25 rfl rfl ho74 rfl hr73 (fun _ => rfl) (by (try simp only [List.length_append, List.length_cons, List.length_nil, List.length_take, List.length_drop, List.length_replicate]); omega) (by omega) rfl ?_)
                intro a75 c75 w75 hz75 ho75 hG75
                replace hB := below_own hB hG75 ho74 (by omega) hsz
                replace hsz := Nat.le_trans hsz hG75.size
                replace hos12 := hos12.kept ho74 (by decide) hG75
                replace hos74 := hos74.kept ho74 (by decide) hG75
                refine m_q rfl rfl (fun w' hC' => q_assign (v := .slice _ _ _) rfl rfl) ?_
                refine m_nil ?_
                refine r_forget [(9, .int _ _), (10, .int _ _), (16, .slice _ _ _)] ⟨rfl, rfl, rfl, trivial⟩ (fun e76 => ?_)
                refine r_seq ?_
                refine r_seq ?_
                refine r_region' ?_
                refine l_q (q_move (v := .slice _ _ _) rfl rfl) ?_
                refine l_q (q_len rfl Try.underlying48 rfl rfl) ?_
                refine l_q (q_eql rfl rfl rfl) ?_
                refine l_nil ?_
                refine r_forget [(9, .int _ _), (10, .int _ _), (16, .slice _ _ _), (124, .bool _)] ⟨rfl, rfl, rfl, rfl, trivial⟩ (fun e77 => ?_)
                refine r_cond rfl (fun hc78 => ?_) (fun hc78 => ?_)
                · skip
                  try simp only [decide_eq_true_eq, decide_eq_false_iff_not, Bool.not_eq_true', Bool.not_eq_false', Bool.not_not, Bool.not_true, Bool.not_false, Bool.not_eq_true, Bool.not_eq_false, Int.not_lt, Int.not_le, Bool.and_eq_true, Bool.or_eq_true, Bool.and_eq_false_iff, Bool.or_eq_false_iff] at hc78
                  have hone := rep_one hlf hd hlow (by rw [List.length_map]; have h := hc78; rw [List.length_append, List.length_drop, hl3] at h; omega)
                  refine r_seq ?_
                  refine r_region' ?_
                  refine l_q (q_move (v := .int _ _) rfl rfl) ?_
                  refine l_q (q_eql rfl rfl rfl) ?_
                  refine l_q (q_move (v := .bool _) rfl rfl) ?_
                  have hk79 : (decide ((f : Int) = 0)) = true := by rw [decide_eq_true_eq]; omega
                  refine l_part 127 rfl (fun _ => ?_) (fun hx => absurd (hk79.symm.trans hx) (by decide))
                  refine l_q (q_move (v := .int _ _) rfl rfl) ?_
                  refine l_q (q_eql rfl rfl rfl) ?_
                  refine l_q (q_pick_t (v := .bool _) rfl rfl rfl) ?_
                  refine l_q (q_move (v := .bool _) rfl rfl) ?_
                  have hk80 : (decide ((m : Int) = 0)) = true := by rw [decide_eq_true_eq]; omega
                  refine l_part 131 rfl (fun _ => ?_) (fun hx => absurd (hk80.symm.trans hx) (by decide))
                  refine l_o (o_call Try.call18 rfl (awake_ret _) rfl ?_)
                  rintro _ w81 ⟨rfl, hE81⟩
                  replace hB := below_ext hB hE81 hsz
                  replace hos12 := hos12.ext hE81
                  replace hos74 := hos74.ext hE81
                  replace ho75 := own_ext ho75 hE81
                  replace hsz := Nat.le_trans hsz hE81.size
                  refine l_q (q_pick_t (v := .bool _) rfl rfl rfl) ?_
                  refine l_q (q_assign (v := .bool _) rfl rfl) ?_
                  refine l_nil ?_
                  refine r_forget [(8, .bool _)] ⟨rfl, trivial⟩ (fun e82 => ?_)
                  refine r_ret_ (vs := [.bool _]) rfl Try.func11 rfl (.nil _) ⟨rfl, trivial⟩ ?_
                  exact ⟨rfl, Ext.of_below hB⟩
                · skip
                  try simp only [decide_eq_true_eq, decide_eq_false_iff_not, Bool.not_eq_true', Bool.not_eq_false', Bool.not_not, Bool.not_true, Bool.not_false, Bool.not_eq_true, Bool.not_eq_false, Int.not_lt, Int.not_le, Bool.and_eq_true, Bool.or_eq_true, Bool.and_eq_false_iff, Bool.or_eq_false_iff] at hc78
                  have hne5 : 1 < L.length := by have h := hc78; rw [List.length_append, List.length_drop, hl3] at h; omega
                  obtain ⟨m5, f5, hr5, hm5le⟩ := rep_less (k := k) hlf hd hm6 hf5 hkL hne5
                  refine r_skip ?_
                  refine r_seq ?_
                  refine r_region' ?_
                  refine l_q (q_move (v := .slice _ _ _) rfl rfl) ?_
                  refine l_o (o_call Try.call38 rfl (rows_ret _ _ (L74 ++ ((L).drop ((k : Int) + 1).toNat)) _ (Row.of_owns ho75) (rowsI_append hos74.rows ((hlr.below hB).drop (k + 1))) (by rw [List.length_append, List.length_drop]; omega) (sv_app hm3 hle)) rfl ?_)
                  have hszp83 : w.heap.size ≤ w75.heap.size := hsz
                  rintro _ w83 ⟨oa83, oc83, L83, rfl, ho83, hos83, hm83, hE83⟩
                  replace ho83 := own_mono ho83 (show w.heap.size ≤ _ by omega)
                  replace hB := below_ext hB hE83 hsz
                  replace hos12 := hos12.ext hE83
                  replace hos74 := hos74.ext hE83
                  replace ho75 := own_ext ho75 hE83
                  replace hsz := Nat.le_trans hsz hE83.size
                  have hm5 := hm83
                  have hm5t := hm83.trans (sv_map5 (k := k) hm3)
                  refine l_o (o_call Try.call37 rfl ((by have h := frepeat_ret _ _ L83 _ (Row.of_owns ho83) hos83.rows (sv_le5 hm5 hm3 hln hle).1 (sv_le5 hm5 hm3 hln hle).2; rw [hm5t, hr5] at h; exact h)) rfl ?_)
                  rintro _ w84 ⟨rfl, hE84⟩
                  replace hB := below_ext hB hE84 hsz
                  replace hos12 := hos12.ext hE84
                  replace hos74 := hos74.ext hE84
                  replace ho75 := own_ext ho75 hE84
                  replace ho83 := own_ext ho83 hE84
                  replace hos83 := hos83.ext hE84
                  replace hsz := Nat.le_trans hsz hE84.size
                  refine l_q (q_move (v := .tuple _) rfl rfl) ?_
                  refine l_q (q_extract (vs := [_, _, _]) (v := .int _ _) rfl rfl rfl) ?_
                  refine l_q (q_extract (vs := [_, _, _]) (v := .int _ _) rfl rfl rfl) ?_
                  refine l_q (q_extract (vs := [_, _, _]) (v := .int _ _) rfl rfl rfl) ?_
                  refine l_q (q_assign (v := .int _ _) rfl rfl) ?_
                  refine l_q (q_assign (v := .int _ _) rfl rfl) ?_
                  refine l_q (q_assign (v := .int _ _) rfl rfl) ?_
                  refine l_nil ?_
                  refine r_forget [(10, .int _ _), (18, .int _ _), (19, .int _ _)] ⟨rfl, rfl, rfl, trivial⟩ (fun e85 => ?_)
                  refine r_seq ?_
                  refine r_region' ?_
                  refine l_q (q_move (v := .int _ _) rfl rfl) ?_
                  refine l_q (q_eql rfl rfl rfl) ?_
                  refine l_q (q_move (v := .bool _) rfl rfl) ?_
                  have hk86 : (decide (0 = 0)) = true := by simp
                  refine l_part 143 rfl (fun _ => ?_) (fun hx => absurd (hk86.symm.trans hx) (by decide))
                  refine l_q (q_move (v := .int _ _) rfl rfl) ?_
                  refine l_q (q_move (v := .int _ _) rfl rfl) ?_
                  refine l_q (q_leq rfl rfl rfl) ?_
                  refine l_q (q_pick_t (v := .bool _) rfl rfl rfl) ?_
                  refine l_q (q_move (v := .bool _) rfl rfl) ?_
                  have hk87 : (decide ((m5 : Int) ≤ (m : Int))) = true := by rw [decide_eq_true_eq]; omega
                  refine l_part 148 rfl (fun _ => ?_) (fun hx => absurd (hk87.symm.trans hx) (by decide))
                  refine l_o (o_call Try.call18 rfl (awake_ret _) rfl ?_)
                  rintro _ w88 ⟨rfl, hE88⟩
                  replace hB := below_ext hB hE88 hsz
                  replace hos12 := hos12.ext hE88
                  replace hos74 := hos74.ext hE88
                  replace ho75 := own_ext ho75 hE88
                  replace ho83 := own_ext ho83 hE88
                  replace hos83 := hos83.ext hE88
                  replace hsz := Nat.le_trans hsz hE88.size
                  refine l_q (q_pick_t (v := .bool _) rfl rfl rfl) ?_
                  refine l_q (q_assign (v := .bool _) rfl rfl) ?_
                  refine l_nil ?_
                  refine r_forget [(8, .bool _)] ⟨rfl, trivial⟩ (fun e89 => ?_)
                  refine r_ret_ (vs := [.bool _]) rfl Try.func11 rfl (.nil _) ⟨rfl, trivial⟩ ?_
                  exact ⟨rfl, Ext.of_below hB⟩
              · skip
                try simp only [decide_eq_true_eq, decide_eq_false_iff_not, Bool.not_eq_true', Bool.not_eq_false', Bool.not_not, Bool.not_true, Bool.not_false, Bool.not_eq_true, Bool.not_eq_false, Int.not_lt, Int.not_le, Bool.and_eq_true, Bool.or_eq_true, Bool.and_eq_false_iff, Bool.or_eq_false_iff] at hc67
                refine l_q (q_skip rfl) ?_
                refine l_q (q_skip rfl) ?_
                refine l_q (q_skip rfl) ?_
                refine l_q (q_skip rfl) ?_
                refine l_q (q_pick_f (v := .bool _) rfl rfl rfl) ?_
                refine l_nil ?_
                refine r_forget [(0, .slice _ _ _), (9, .int _ _), (10, .int _ _), (12, .int _ _), (112, .bool _)] ⟨rfl, rfl, rfl, rfl, rfl, trivial⟩ (fun e90 => ?_)
                refine r_cond_f rfl ?_
                refine r_skip ?_
                refine r_seq ?_
                refine r_draw ext_refl' ext_trans' [0, 1, 2, 4, 5, 6, 7, 3, 8, 9] [3, 8, 1008] 4 (by kernel_rfl) (by kernel_rfl) ?_
                intro w91 _ hE91
                replace hB := below_ext hB hE91 hsz
                replace ho12 := own_ext ho12 hE91
                replace hos12 := hos12.ext hE91
                replace hsz := Nat.le_trans hsz hE91.size
                refine m_q rfl rfl (fun w' hC' => q_move (v := .slice _ _ _) rfl rfl) ?_
                refine m_q rfl rfl (fun w' hC' => q_move (v := .int _ _) rfl rfl) ?_
                obtain ⟨a92, c92, hr92, hv92⟩ := slice_ex_hi (f := SV.enc) (xs := L) ((k : Int)) (hl.below hB) (by omega)
                refine m_q rfl rfl (fun w' hC' => (q_slice (lo := 0) (hi := (k : Int)) Try.underlying48 Try.sizeOf25 rfl rfl rfl (by omega) (hl.below hB).2.1 rfl).cast hv92) ?_
                have hrs92 := (hlr.below hB).take k
                refine m_q rfl rfl (fun w' hC' => q_move (v := .slice _ _ _) rfl rfl) ?_
                refine m_q rfl rfl (fun w' hC' => q_move (v := .int _ _) rfl rfl) ?_
                refine m_q rfl rfl (fun w' hC' => q_add rfl rfl (by omega) rfl) ?_
                obtain ⟨a93, c93, hr93, hv93⟩ := slice_ex_lo (f := SV.enc) (xs := L) ((k : Int) + 1) (hl.below hB) (by omega)
                refine m_q rfl rfl (fun w' hC' => (q_slice (lo := (k : Int) + 1) (hi := (L.length : Int)) Try.underlying48 Try.sizeOf25 rfl rfl rfl (by omega) (hl.below hB).2.1 rfl).cast hv93) ?_
                have hrs93 := (hlr.below hB).drop (((k : Int) + 1).toNat)
                refine m_o rfl rfl (o_call Try.call38 rfl (rows_ret _ _ ((L).take k) _ hr92 hrs92 (by rw [List.length_take]; omega) (fun s hs => hle s (List.mem_of_mem_take hs))) rfl ?_)
                have hszp94 : w.heap.size ≤ w91.heap.size := hsz
                rintro _ w94 ⟨oa94, oc94, L94, rfl, ho94, hos94, hm94, hE94⟩
                replace ho94 := own_mono ho94 (show w.heap.size ≤ _ by omega)
                refine ⟨hE94, ?_⟩
                replace hB := below_ext hB hE94 hsz
                replace ho12 := own_ext ho12 hE94
                replace hos12 := hos12.ext hE94
                replace hrs92 := hrs92.ext hE94
                replace hr92 := hr92.ext hE94
                replace hrs93 := hrs93.ext hE94
                replace hr93 := hr93.ext hE94
                replace hsz := Nat.le_trans hsz hE94.size
                have hm3 := hm94
                have hl3 := sv_len hm3
                rw [List.length_take] at hl3
                refine m_last rfl rfl rfl (o_append_map (f := SV.enc) (L94) ((L).drop ((k : Int) + 1).toNat) Try.underlying48 el25 rfl rfl ho94 rfl hr93 (fun _ => rfl) (by (try simp only [List.length_append, List.length_cons, List.length_nil, List.length_take, List.length_drop, List.length_replicate]); omega) (by omega) rfl ?_)
                intro a95 c95 w95 hz95 ho95 hG95
                replace hB := below_own hB hG95 ho94 (by omega) hsz
                replace hsz := Nat.le_trans hsz hG95.size
                replace hos12 := hos12.kept ho94 (by decide) hG95
                replace hos94 := hos94.kept ho94 (by decide) hG95
                refine m_q rfl rfl (fun w' hC' => q_assign (v := .slice _ _ _) rfl rfl) ?_
                refine m_nil ?_
                refine r_forget [(9, .int _ _), (10, .int _ _), (16, .slice _ _ _)] ⟨rfl, rfl, rfl, trivial⟩ (fun e96 => ?_)
                refine r_seq ?_
                refine r_seq ?_
                refine r_region' ?_
                refine l_q (q_move (v := .slice _ _ _) rfl rfl) ?_
                refine l_q (q_len rfl Try.underlying48 rfl rfl) ?_
                refine l_q (q_eql rfl rfl rfl) ?_
                refine l_nil ?_
                refine r_forget [(9, .int _ _), (10, .int _ _), (16, .slice _ _ _), (124, .bool _)] ⟨rfl, rfl, rfl, rfl, trivial⟩ (fun e97 => ?_)
                refine r_cond rfl (fun hc98 => ?_) (fun hc98 => ?_)
                · skip
                  try simp only [decide_eq_true_eq, decide_eq_false_iff_not, Bool.not_eq_true', Bool.not_eq_false', Bool.not_not, Bool.not_true, Bool.not_false, Bool.not_eq_true, Bool.not_eq_false, Int.not_lt, Int.not_le, Bool.and_eq_true, Bool.or_eq_true, Bool.and_eq_false_iff, Bool.or_eq_false_iff] at hc98
                  have hone := rep_one hlf hd hlow (by rw [List.length_map]; have h := hc98; rw [List.length_append, List.length_drop, hl3] at h; omega)
                  refine r_seq ?_
                  refine r_region' ?_
                  refine l_q (q_move (v := .int _ _) rfl rfl) ?_
                  refine l_q (q_eql rfl rfl rfl) ?_
                  refine l_q (q_move (v := .bool _) rfl rfl) ?_
                  have hk99 : (decide ((f : Int) = 0)) = true := by rw [decide_eq_true_eq]; omega
                  refine l_part 127 rfl (fun _ => ?_) (fun hx => absurd (hk99.symm.trans hx) (by decide))
                  refine l_q (q_move (v := .int _ _) rfl rfl) ?_
                  refine l_q (q_eql rfl rfl rfl) ?_
                  refine l_q (q_pick_t (v := .bool _) rfl rfl rfl) ?_
                  refine l_q (q_move (v := .bool _) rfl rfl) ?_
                  have hk100 : (decide ((m : Int) = 0)) = true := by rw [decide_eq_true_eq]; omega
                  refine l_part 131 rfl (fun _ => ?_) (fun hx => absurd (hk100.symm.trans hx) (by decide))
                  refine l_o (o_call Try.call18 rfl (awake_ret _) rfl ?_)
                  rintro _ w101 ⟨rfl, hE101⟩
                  replace hB := below_ext hB hE101 hsz
                  replace hos12 := hos12.ext hE101
                  replace hos94 := hos94.ext hE101
                  replace ho95 := own_ext ho95 hE101
                  replace hsz := Nat.le_trans hsz hE101.size
                  refine l_q (q_pick_t (v := .bool _) rfl rfl rfl) ?_
                  refine l_q (q_assign (v := .bool _) rfl rfl) ?_
                  refine l_nil ?_
                  refine r_forget [(8, .bool _)] ⟨rfl, trivial⟩ (fun e102 => ?_)
                  refine r_ret_ (vs := [.bool _]) rfl Try.func11 rfl (.nil _) ⟨rfl, trivial⟩ ?_
                  exact ⟨rfl, Ext.of_below hB⟩
                · skip
                  try simp only [decide_eq_true_eq, decide_eq_false_iff_not, Bool.not_eq_true', Bool.not_eq_false', Bool.not_not, Bool.not_true, Bool.not_false, Bool.not_eq_true, Bool.not_eq_false, Int.not_lt, Int.not_le, Bool.and_eq_true, Bool.or_eq_true, Bool.and_eq_false_iff, Bool.or_eq_false_iff] at hc98
                  have hne5 : 1 < L.length := by have h := hc98; rw [List.length_append, List.length_drop, hl3] at h; omega
                  obtain ⟨m5, f5, hr5, hm5le⟩ := rep_less (k := k) hlf hd hm6 hf5 hkL hne5
                  refine r_skip ?_
                  refine r_seq ?_
                  refine r_region' ?_
                  refine l_q (q_move (v := .slice _ _ _) rfl rfl) ?_
                  refine l_o (o_call Try.call38 rfl (rows_ret _ _ (L94 ++ ((L).drop ((k : Int) + 1).toNat)) _ (Row.of_owns ho95) (rowsI_append hos94.rows ((hlr.below hB).drop (k + 1))) (by rw [List.length_append, List.length_drop]; omega) (sv_app hm3 hle)) rfl ?_)
                  have hszp103 : w.heap.size ≤ w95.heap.size := hsz
                  rintro _ w103 ⟨oa103, oc103, L103, rfl, ho103, hos103, hm103, hE103⟩
                  replace ho103 := own_mono ho103 (show w.heap.size ≤ _ by omega)
                  replace hB := below_ext hB hE103 hsz
                  replace hos12 := hos12.ext hE103
                  replace hos94 := hos94.ext hE103
                  replace ho95 := own_ext ho95 hE103
                  replace hsz := Nat.le_trans hsz hE103.size
                  have hm5 := hm103
                  have hm5t := hm103.trans (sv_map5 (k := k) hm3)
                  refine l_o (o_call Try.call37 rfl ((by have h := frepeat_ret _ _ L103 _ (Row.of_owns ho103) hos103.rows (sv_le5 hm5 hm3 hln hle).1 (sv_le5 hm5 hm3 hln hle).2; rw [hm5t, hr5] at h; exact h)) rfl ?_)
                  rintro _ w104 ⟨rfl, hE104⟩
                  replace hB := below_ext hB hE104 hsz
                  replace hos12 := hos12.ext hE104
                  replace hos94 := hos94.ext hE104
                  replace ho95 := own_ext ho95 hE104
                  replace ho103 := own_ext ho103 hE104
                  replace hos103 := hos103.ext hE104
                  replace hsz := Nat.le_trans hsz hE104.size
                  refine l_q (q_move (v := .tuple _) rfl rfl) ?_
                  refine l_q (q_extract (vs := [_, _, _]) (v := .int _ _) rfl rfl rfl) ?_
                  refine l_q (q_extract (vs := [_, _, _]) (v := .int _ _) rfl rfl rfl) ?_
                  refine l_q (q_extract (vs := [_, _, _]) (v := .int _ _) rfl rfl rfl) ?_
                  refine l_q (q_assign (v := .int _ _) rfl rfl) ?_
                  refine l_q (q_assign (v := .int _ _) rfl rfl) ?_
                  refine l_q (q_assign (v := .int _ _) rfl rfl) ?_
                  refine l_nil ?_
                  refine r_forget [(10, .int _ _), (18, .int _ _), (19, .int _ _)] ⟨rfl, rfl, rfl, trivial⟩ (fun e105 => ?_)
                  refine r_seq ?_
                  refine r_region' ?_
                  refine l_q (q_move (v := .int _ _) rfl rfl) ?_
                  refine l_q (q_eql rfl rfl rfl) ?_
                  refine l_q (q_move (v := .bool _) rfl rfl) ?_
                  have hk106 : (decide (0 = 0)) = true := by simp
                  refine l_part 143 rfl (fun _ => ?_) (fun hx => absurd (hk106.symm.trans hx) (by decide))
                  refine l_q (q_move (v := .int _ _) rfl rfl) ?_
                  refine l_q (q_move (v := .int _ _) rfl rfl) ?_
                  refine l_q (q_leq rfl rfl rfl) ?_
                  refine l_q (q_pick_t (v := .bool _) rfl rfl rfl) ?_
                  refine l_q (q_move (v := .bool _) rfl rfl) ?_
                  have hk107 : (decide ((m5 : Int) ≤ (m : Int))) = true := by rw [decide_eq_true_eq]; omega
                  refine l_part 148 rfl (fun _ => ?_) (fun hx => absurd (hk107.symm.trans hx) (by decide))
                  refine l_o (o_call Try.call18 rfl (awake_ret _) rfl ?_)
                  rintro _ w108 ⟨rfl, hE108⟩
                  replace hB := below_ext hB hE108 hsz
                  replace hos12 := hos12.ext hE108
                  replace hos94 := hos94.ext hE108
                  replace ho95 := own_ext ho95 hE108
                  replace ho103 := own_ext ho103 hE108
                  replace hos103 := hos103.ext hE108
                  replace hsz := Nat.le_trans hsz hE108.size
                  refine l_q (q_pick_t (v := .bool _) rfl rfl rfl) ?_
                  refine l_q (q_assign (v := .bool _) rfl rfl) ?_
                  refine l_nil ?_
                  refine r_forget [(8, .bool _)] ⟨rfl, trivial⟩ (fun e109 => ?_)
                  refine r_ret_ (vs := [.bool _]) rfl Try.func11 rfl (.nil _) ⟨rfl, trivial⟩ ?_
                  exact ⟨rfl, Ext.of_below hB⟩
            · skip
              try simp only [decide_eq_true_eq, decide_eq_false_iff_not, Bool.not_eq_true', Bool.not_eq_false', Bool.not_not, Bool.not_true, Bool.not_false, Bool.not_eq_true, Bool.not_eq_false, Int.not_lt, Int.not_le, Bool.and_eq_true, Bool.or_eq_true, Bool.and_eq_false_iff, Bool.or_eq_false_iff] at hc66
              refine l_q (q_skip rfl) ?_
              refine l_q (q_skip rfl) ?_
              refine l_q (q_skip rfl) ?_
              refine l_q (q_pick_f (v := .bool _) rfl rfl rfl) ?_
              refine l_q (q_pick_f (v := .bool _) rfl rfl rfl) ?_
              refine l_q (q_move (v := .bool _) rfl rfl) ?_
              refine l_q (q_skip rfl) ?_
              refine l_q (q_skip rfl) ?_
              refine l_q (q_skip rfl) ?_
              refine l_q (q_skip rfl) ?_
              refine l_q (q_pick_f (v := .bool _) rfl rfl rfl) ?_
              refine l_nil ?_
              refine r_forget [(0, .slice _ _ _), (9, .int _ _), (10, .int _ _), (12, .int _ _), (112, .bool _)] ⟨rfl, rfl, rfl, rfl, rfl, trivial⟩ (fun e110 => ?_)
              refine r_cond_f rfl ?_
              refine r_skip ?_
              refine r_seq ?_
              refine r_draw ext_refl' ext_trans' [0, 1, 2, 4, 5, 6, 7, 3, 8, 9] [3, 8, 1008] 4 (by kernel_rfl) (by kernel_rfl) ?_
              intro w111 _ hE111
              replace hB := below_ext hB hE111 hsz
              replace ho12 := own_ext ho12 hE111
              replace hos12 := hos12.ext hE111
              replace hsz := Nat.le_trans hsz hE111.size
              refine m_q rfl rfl (fun w' hC' => q_move (v := .slice _ _ _) rfl rfl) ?_
              refine m_q rfl rfl (fun w' hC' => q_move (v := .int _ _) rfl rfl) ?_
              obtain ⟨a112, c112, hr112, hv112⟩ := slice_ex_hi (f := SV.enc) (xs := L) ((k : Int)) (hl.below hB) (by omega)
              refine m_q rfl rfl (fun w' hC' => (q_slice (lo := 0) (hi := (k : Int)) Try.underlying48 Try.sizeOf25 rfl rfl rfl (by omega) (hl.below hB).2.1 rfl).cast hv112) ?_
              have hrs112 := (hlr.below hB).take k
              refine m_q rfl rfl (fun w' hC' => q_move (v := .slice _ _ _) rfl rfl) ?_
              refine m_q rfl rfl (fun w' hC' => q_move (v := .int _ _) rfl rfl) ?_
              refine m_q rfl rfl (fun w' hC' => q_add rfl rfl (by omega) rfl) ?_
              obtain ⟨a113, c113, hr113, hv113⟩ := slice_ex_lo (f := SV.enc) (xs := L) ((k : Int) + 1) (hl.below hB) (by omega)
              refine m_q rfl rfl (fun w' hC' => (q_slice (lo := (k : Int) + 1) (hi := (L.length : Int)) Try.underlying48 Try.sizeOf25 rfl rfl rfl (by omega) (hl.below hB).2.1 rfl).cast hv113) ?_
              have hrs113 := (hlr.below hB).drop (((k : Int) + 1).toNat)
              refine m_o rfl rfl (o_call Try.call38 rfl (rows_ret _ _ ((L).take k) _ hr112 hrs112 (by rw [List.length_take]; omega) (fun s hs => hle s (List.mem_of_mem_take hs))) rfl ?_)
              have hszp114 : w.heap.size ≤ w111.heap.size := hsz
              rintro _ w114 ⟨oa114, oc114, L114, rfl, ho114, hos114, hm114, hE114⟩
              replace ho114 := own_mono ho114 (show w.heap.size ≤ _ by omega)
              refine ⟨hE114, ?_⟩
              replace hB := below_ext hB hE114 hsz
              replace ho12 := own_ext ho12 hE114
              replace hos12 := hos12.ext hE114
              replace hrs112 := hrs112.ext hE114
              replace hr112 := hr112.ext hE114
              replace hrs113 := hrs113.ext hE114
              replace hr113 := hr113.ext hE114
              replace hsz := Nat.le_trans hsz hE114.size
              have hm3 := hm114
              have hl3 := sv_len hm3
              rw [List.length_take] at hl3
              refine m_last rfl rfl rfl (o_append_map (f := SV.enc) (L114) ((L).drop ((k : Int) + 1).toNat) Try.underlying48 el25 rfl rfl ho114 rfl hr113 (fun _ => rfl) (by (try simp only [List.length_append, List.length_cons, List.length_nil, List.length_take, List.length_drop, List.length_replicate]); omega) (by omega) rfl ?_)
              intro a115 c115 w115 hz115 ho115 hG115
              replace hB := below_own hB hG115 ho114 (by omega) hsz
              replace hsz := Nat.le_trans hsz hG115.size
              replace hos12 := hos12.kept ho114 (by decide) hG115
              replace hos114 := hos114.kept ho114 (by decide) hG115
              refine m_q rfl rfl (fun w' hC' => q_assign (v := .slice _ _ _) rfl rfl) ?_
              refine m_nil ?_
              refine r_forget [(9, .int _ _), (10, .int _ _), (16, .slice _ _ _)] ⟨rfl, rfl, rfl, trivial⟩ (fun e116 => ?_)
              refine r_seq ?_
              refine r_seq ?_
              refine r_region' ?_
              refine l_q (q_move (v := .slice _ _ _) rfl rfl) ?_
              refine l_q (q_len rfl Try.underlying48 rfl rfl) ?_
              refine l_q (q_eql rfl rfl rfl) ?_
              refine l_nil ?_
              refine r_forget [(9, .int _ _), (10, .int _ _), (16, .slice _ _ _), (124, .bool _)] ⟨rfl, rfl, rfl, rfl, trivial⟩ (fun e117 => ?_)
              refine r_cond rfl (fun hc118 => ?_) (fun hc118 => ?_)
              · skip
                try simp only [decide_eq_true_eq, decide_eq_false_iff_not, Bool.not_eq_true', Bool.not_eq_false', Bool.not_not, Bool.not_true, Bool.not_false, Bool.not_eq_true, Bool.not_eq_false, Int.not_lt, Int.not_le, Bool.and_eq_true, Bool.or_eq_true, Bool.and_eq_false_iff, Bool.or_eq_false_iff] at hc118
                have hone := rep_one hlf hd hlow (by rw [List.length_map]; have h := hc118; rw [List.length_append, List.length_drop, hl3] at h; omega)
                refine r_seq ?_
                refine r_region' ?_
                refine l_q (q_move (v := .int _ _) rfl rfl) ?_
                refine l_q (q_eql rfl rfl rfl) ?_
                refine l_q (q_move (v := .bool _) rfl rfl) ?_
                have hk119 : (decide ((f : Int) = 0)) = true := by rw [decide_eq_true_eq]; omega
                refine l_part 127 rfl (fun _ => ?_) (fun hx => absurd (hk119.symm.trans hx) (by decide))
                refine l_q (q_move (v := .int _ _) rfl rfl) ?_
                refine l_q (q_eql rfl rfl rfl) ?_
                refine l_q (q_pick_t (v := .bool _) rfl rfl rfl) ?_
                refine l_q (q_move (v := .bool _) rfl rfl) ?_
                have hk120 : (decide ((m : Int) = 0)) = true := by rw [decide_eq_true_eq]; omega
                refine l_part 131 rfl (fun _ => ?_) (fun hx => absurd (hk120.symm.trans hx) (by decide))
                refine l_o (o_call Try.call18 rfl (awake_ret _) rfl ?_)
                rintro _ w121 ⟨rfl, hE121⟩
                replace hB := below_ext hB hE121 hsz
                replace hos12 := hos12.ext hE121
                replace hos114 := hos114.ext hE121
                replace ho115 := own_ext ho115 hE121
                replace hsz := Nat.le_trans hsz hE121.size
                refine l_q (q_pick_t (v := .bool _) rfl rfl rfl) ?_
                refine l_q (q_assign (v := .bool _) rfl rfl) ?_
                refine l_nil ?_
                refine r_forget [(8, .bool _)] ⟨rfl, trivial⟩ (fun e122 => ?_)
                refine r_ret_ (vs := [.bool _]) rfl Try.func11 rfl (.nil _) ⟨rfl, trivial⟩ ?_
                exact ⟨rfl, Ext.of_below hB⟩
              · skip
                try simp only [decide_eq_true_eq, decide_eq_false_iff_not, Bool.not_eq_true', Bool.not_eq_false', Bool.not_not, Bool.not_true, Bool.not_false, Bool.not_eq_true, Bool.not_eq_false, Int.not_lt, Int.not_le, Bool.and_eq_true, Bool.or_eq_true, Bool.and_eq_false_iff, Bool.or_eq_false_iff] at hc118
                have hne5 : 1 < L.length := by have h := hc118; rw [List.length_append, List.length_drop, hl3] at h; omega
                obtain ⟨m5, f5, hr5, hm5le⟩ := rep_less (k := k) hlf hd hm6 hf5 hkL hne5
                refine r_skip ?_
                refine r_seq ?_
                refine r_region' ?_
                refine l_q (q_move (v := .slice _ _ _) rfl rfl) ?_
                refine l_o (o_call Try.call38 rfl (rows_ret _ _ (L114 ++ ((L).drop ((k : Int) + 1).toNat)) _ (Row.of_owns ho115) (rowsI_append hos114.rows ((hlr.below hB).drop (k + 1))) (by rw [List.length_append, List.length_drop]; omega) (sv_app hm3 hle)) rfl ?_)
                have hszp123 : w.heap.size ≤ w115.heap.size := hsz
                rintro _ w123 ⟨oa123, oc123, L123, rfl, ho123, hos123, hm123, hE123⟩
                replace ho123 := own_mono ho123 (show w.heap.size ≤ _ by omega)
                replace hB := below_ext hB hE123 hsz
                replace hos12 := hos12.ext hE123
                replace hos114 := hos114.ext hE123
                replace ho115 := own_ext ho115 hE123
                replace hsz := Nat.le_trans hsz hE123.size
                have hm5 := hm123
                have hm5t := hm123.trans (sv_map5 (k := k) hm3)
                refine l_o (o_call Try.call37 rfl ((by have h := frepeat_ret _ _ L123 _ (Row.of_owns ho123) hos123.rows (sv_le5 hm5 hm3 hln hle).1 (sv_le5 hm5 hm3 hln hle).2; rw [hm5t, hr5] at h; exact h)) rfl ?_)
                rintro _ w124 ⟨rfl, hE124⟩
                replace hB := below_ext hB hE124 hsz
                replace hos12 := hos12.ext hE124
                replace hos114 := hos114.ext hE124
                replace ho115 := own_ext ho115 hE124
                replace ho123 := own_ext ho123 hE124
                replace hos123 := hos123.ext hE124
                replace hsz := Nat.le_trans hsz hE124.size
                refine l_q (q_move (v := .tuple _) rfl rfl) ?_
                refine l_q (q_extract (vs := [_, _, _]) (v := .int _ _) rfl rfl rfl) ?_
                refine l_q (q_extract (vs := [_, _, _]) (v := .int _ _) rfl rfl rfl) ?_
                refine l_q (q_extract (vs := [_, _, _]) (v := .int _ _) rfl rfl rfl) ?_
                refine l_q (q_assign (v := .int _ _) rfl rfl) ?_
                refine l_q (q_assign (v := .int _ _) rfl rfl) ?_
                refine l_q (q_assign (v := .int _ _) rfl rfl) ?_
                refine l_nil ?_
                refine r_forget [(10, .int _ _), (18, .int _ _), (19, .int _ _)] ⟨rfl, rfl, rfl, trivial⟩ (fun e125 => ?_)
                refine r_seq ?_
                refine r_region' ?_
                refine l_q (q_move (v := .int _ _) rfl rfl) ?_
                refine l_q (q_eql rfl rfl rfl) ?_
                refine l_q (q_move (v := .bool _) rfl rfl) ?_
                have hk126 : (decide (0 = 0)) = true := by simp
                refine l_part 143 rfl (fun _ => ?_) (fun hx => absurd (hk126.symm.trans hx) (by decide))
                refine l_q (q_move (v := .int _ _) rfl rfl) ?_
                refine l_q (q_move (v := .int _ _) rfl rfl) ?_
                refine l_q (q_leq rfl rfl rfl) ?_
                refine l_q (q_pick_t (v := .bool _) rfl rfl rfl) ?_
                refine l_q (q_move (v := .bool _) rfl rfl) ?_
                have hk127 : (decide ((m5 : Int) ≤ (m : Int))) = true := by rw [decide_eq_true_eq]; omega
                refine l_part 148 rfl (fun _ => ?_) (fun hx => absurd (hk127.symm.trans hx) (by decide))
                refine l_o (o_call Try.call18 rfl (awake_ret _) rfl ?_)
                rintro _ w128 ⟨rfl, hE128⟩
                replace hB := below_ext hB hE128 hsz
                replace hos12 := hos12.ext hE128
                replace hos114 := hos114.ext hE128
                replace ho115 := own_ext ho115 hE128
                replace ho123 := own_ext ho123 hE128
                replace hos123 := hos123.ext hE128
                replace hsz := Nat.le_trans hsz hE128.size
                refine l_q (q_pick_t (v := .bool _) rfl rfl rfl) ?_
                refine l_q (q_assign (v := .bool _) rfl rfl) ?_
                refine l_nil ?_
                refine r_forget [(8, .bool _)] ⟨rfl, trivial⟩ (fun e129 => ?_)
                refine r_ret_ (vs := [.bool _]) rfl Try.func11 rfl (.nil _) ⟨rfl, trivial⟩ ?_
                exact ⟨rfl, Ext.of_below hB⟩
end Go.Proofs.Ytkcbgpilfegofaa
