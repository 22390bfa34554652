/- Contracts. -/
import Derived.Test.YtkcbgpilfegofaaF8
set_option linter.unusedVariables false
set_option linter.unusedSimpArgs false
namespace Go.Proofs.Ytkcbgpilfegofaa
open Go Go.RowKit Go.Gv Go.Fl

theorem catL_le {L : List SV} (h : ∀ s ∈ L, s.xs.length ≤ 2097152) : (catL L).length ≤ L.length * 2097152 := by
  unfold catL
  induction L with
  | nil => simp
  | cons s l ih =>
    have h1 := h s (by simp)
    have h2 := ih (fun x hx => h x (by simp [hx]))
    simp only [List.map_cons, List.flatten_cons, List.length_append, List.length_cons]
    omega
def repAll (T : List (List Int)) : Int × Int × Int := if listFault T = 0 then ((rep T 5).1, (rep T 5).2, 0) else (0, 0, listFault T)
theorem rep_err {T : List (List Int)} {n : Int} (h : listFault T = n) (h0 : n ≠ 0) : repAll T = (0, 0, n) := by unfold repAll; rw [h, if_neg h0]
theorem rep_ok {T : List (List Int)} {m f : Nat} (h : listFault T = 0) (hm : m < 6) (hf : f < 5) (hd : decidesB T f m = true) (hno : ∀ i, i < m * 5 + f → decidesB T (i % 5) (i / 5) = false) : repAll T = ((f : Int), (m : Int), 0) := by
  unfold repAll; rw [h, if_pos rfl, rep5 hm hf hd hno]
theorem all5 {L : List SV} (h : L.all (fun s => decide ((s.xs.length : Int) ≤ 5)) = true) : (L.map (·.xs)).all (fun t => decide (t.length ≤ 5)) = true := by
  rw [List.all_map]; rw [List.all_eq_true] at h ⊢
  intro s hs; have := h s hs
  simp only [decide_eq_true_eq, Function.comp] at this ⊢; omega
theorem allc {L : List SV} (h : (catL L).all (fun n => decide (0 ≤ n) && decide (n ≤ 5)) = true) : (L.map (·.xs)).all (fun t => t.all (fun n => decide (0 ≤ n) && decide (n ≤ 5))) = true := by
  rw [catL, List.all_flatten] at h; exact h
theorem lf_three (L : List SV) (h : 64 < L.length ∨ L.all (fun s => decide ((s.xs.length : Int) ≤ 5)) = false) : listFault (L.map (·.xs)) = 3 := by
  unfold listFault
  rw [if_pos]
  rcases h with h | h
  · left; rw [List.length_map]; exact h
  · right
    rw [List.all_eq_false] at h
    obtain ⟨s, hs, hl⟩ := h
    rw [List.all_eq_false]
    exact ⟨s.xs, List.mem_map.2 ⟨s, hs, rfl⟩, by simp only [decide_eq_true_eq] at hl ⊢; omega⟩
theorem lf_two (L : List SV) (h64 : L.length ≤ 64) (h5 : (L.map (·.xs)).all (fun t => decide (t.length ≤ 5)) = true) (h : L.length = 0 ∨ (catL L).all (fun n => decide (0 ≤ n) && decide (n ≤ 5)) = false) : listFault (L.map (·.xs)) = 2 := by
  unfold listFault
  rw [if_neg (lf_no3 h64 h5), if_pos]
  rcases h with h | h
  · left; rw [List.eq_nil_of_length_eq_zero h]; rfl
  · right; rw [catL, List.all_flatten] at h; exact h
theorem pfx_short {s p : Sg} (h : (s.length : Int) < p.length) : hasPfx s p = false := by
  unfold hasPfx
  rw [decide_eq_false_iff_not]
  intro he; have := congrArg List.length he
  rw [List.length_take] at this; omega
theorem pfx_no {s p : Sg} {n : Nat} (h : ¬ s.take n = p) (hn : n = p.length := by rfl) : hasPfx s p = false := by unfold hasPfx; rw [← hn]; exact decide_eq_false h
theorem pfx_yes {s p : Sg} {n : Nat} (h : s.take n = p) (hn : n = p.length := by rfl) : hasPfx s p = true := by unfold hasPfx; rw [← hn]; exact decide_eq_true h
theorem stepR_none {k : Int} {s r : Sg} (h : stepTW k s = none) : stepR k s r = ([], [], false) := by unfold stepR; rw [h]
theorem stepR_no {k : Int} {s r : Sg} {t : Nat} {wr : Sg} (h : stepTW k s = some (t, wr)) (hp : hasPfx r wr = false) : stepR k s r = ([], [], false) := by unfold stepR; rw [h]; simp [hp]
theorem stepR_yes {k : Int} {s r : Sg} {t : Nat} {wr : Sg} (h : stepTW k s = some (t, wr)) (hp : hasPfx r wr = true) : stepR k s r = (s.drop t, r.drop wr.length, true) := by unfold stepR; rw [h]; simp [hp]
def doS (s r : Sg) (n : Int) : List Int → Int × Bool
  | [] => (n, decide (s = []) && decide (r = []))
  | k :: ks => if (stepR k s r).2.2 = true then doS (stepR k s r).1 (stepR k s r).2.1 (n + cost k) ks else (0, false)
theorem cost_le (k : Int) : 0 ≤ cost k ∧ cost k ≤ 1 := by unfold cost; split <;> omega
theorem stepR_len (k : Int) (s r : Sg) : (stepR k s r).1.length ≤ s.length ∧ (stepR k s r).2.1.length ≤ r.length := by
  unfold stepR
  cases stepTW k s with
  | none => simp
  | some p =>
    obtain ⟨t, wr⟩ := p
    simp only
    split
    · simp only [List.length_drop]; omega
    · simp
theorem doS_step {s r : Sg} {n : Int} {xs : List Int} {k : Nat} (hk : k < xs.length) (h : (stepR (xs.getD k 0) s r).2.2 = true) : doS s r n (xs.drop k) = doS (stepR (xs.getD k 0) s r).1 (stepR (xs.getD k 0) s r).2.1 (n + cost (xs.getD k 0)) (xs.drop (k + 1)) := by
  rw [drop_getD (d := 0) hk, doS, if_pos h]
theorem doS_no {s r : Sg} {n : Int} {xs : List Int} {k : Nat} (hk : k < xs.length) (h : (stepR (xs.getD k 0) s r).2.2 = false) : doS s r n (xs.drop k) = (0, false) := by
  rw [drop_getD (d := 0) hk, doS, if_neg (by rw [h]; exact Bool.false_ne_true)]
theorem doS_end {s r : Sg} {n : Int} {xs : List Int} {k : Nat} (hk : xs.length ≤ k) : doS s r n (xs.drop k) = (n, decide (s = []) && decide (r = [])) := by
  rw [List.drop_eq_nil_of_le hk, doS]


theorem frepeat_ret (la : Option Addr) (lc : Nat) (L : List SV) (w : World) (hl : Row w la L.length lc 1 (L.map SV.enc)) (hlr : RowsI w L) (hln : L.length ≤ 2097152) (hle : ∀ s ∈ L, s.xs.length ≤ 2097152) : Ret Try.prog 37 [.slice la L.length lc] w (fun v w' => v = .tuple ⟨[vint ((repAll (L.map (·.xs))).1), vint ((repAll (L.map (·.xs))).2.1), vint ((repAll (L.map (·.xs))).2.2)]⟩ ∧ Ext w w') := by
  have hB := Below.refl w.heap.size w
  have hsz : w.heap.size ≤ w.heap.size := Nat.le_refl _
  refine ret_of_runs (args := [_]) Try.func37 rfl (Nat.le_of_ble_eq_true rfl) (by kernel_rfl) ?_
  refine r_seq ?_
  refine r_region' ?_
  refine l_q (q_assign (v := .int _ _) rfl rfl) ?_
  refine l_q (q_assign (v := .int _ _) rfl rfl) ?_
  refine l_q (q_assign (v := .int _ _) rfl rfl) ?_
  refine l_nil ?_
  refine r_forget [(0, .slice _ _ _), (2, .int _ _), (3, .int _ _)] ⟨rfl, rfl, rfl, trivial⟩ (fun e1 => ?_)
  refine r_scope ?_
  refine r_seq ?_
  refine r_block ?_
  refine r_seq ?_
  refine r_region' ?_
  refine l_q (q_move (v := .slice _ _ _) rfl rfl) ?_
  refine l_q (q_len rfl Try.underlying48 rfl rfl) ?_
  refine l_q (q_gtr rfl rfl rfl) ?_
  refine l_q (q_move (v := .bool _) rfl rfl) ?_
  refine l_part 9 rfl (fun hc2 => ?_) (fun hc2 => ?_)
  · skip
    try simp only [decide_eq_true_eq, decide_eq_false_iff_not, Bool.not_eq_true', Bool.not_eq_false', Bool.not_not, Bool.not_true, Bool.not_false, Bool.not_eq_true, Bool.not_eq_false, Int.not_lt, Int.not_le, Bool.and_eq_true, Bool.or_eq_true, Bool.and_eq_false_iff, Bool.or_eq_false_iff] at hc2
    refine l_q (q_skip rfl) ?_
    refine l_q (q_skip rfl) ?_
    refine l_q (q_skip rfl) ?_
    refine l_q (q_pick_t (v := .bool _) rfl rfl rfl) ?_
    refine l_q (q_assign (v := .bool _) rfl rfl) ?_
    refine l_nil ?_
    refine r_forget [(0, .slice _ _ _), (2, .int _ _), (3, .int _ _), (5, .bool _)] ⟨rfl, rfl, rfl, rfl, trivial⟩ (fun e3 => ?_)
    refine r_cond_t rfl ?_
    refine r_seq ?_
    refine r_region' ?_
    refine l_q (q_assign (v := .int _ _) rfl rfl) ?_
    refine l_q (q_assign (v := .int _ _) rfl rfl) ?_
    refine l_q (q_assign (v := .int _ _) rfl rfl) ?_
    refine l_nil ?_
    refine r_forget [(2, .int _ _), (3, .int _ _), (4, .int _ _)] ⟨rfl, rfl, rfl, trivial⟩ (fun e4 => ?_)
    refine r_ret_ (vs := [.int _ _, .int _ _, .int _ _]) rfl Try.func37 rfl (.nil _) ⟨rfl, rfl, rfl, trivial⟩ ?_
    exact ⟨tup3 (vint_eq (by rw [rep_err (lf_three L (by first | exact .inl (by omega) | exact .inr h3)) (by decide)])) (vint_eq (by rw [rep_err (lf_three L (by first | exact .inl (by omega) | exact .inr h3)) (by decide)])) (vint_eq (by rw [rep_err (lf_three L (by first | exact .inl (by omega) | exact .inr h3)) (by decide)])), Ext.of_below hB⟩
  · skip
    try simp only [decide_eq_true_eq, decide_eq_false_iff_not, Bool.not_eq_true', Bool.not_eq_false', Bool.not_not, Bool.not_true, Bool.not_false, Bool.not_eq_true, Bool.not_eq_false, Int.not_lt, Int.not_le, Bool.and_eq_true, Bool.or_eq_true, Bool.and_eq_false_iff, Bool.or_eq_false_iff] at hc2
    have h64 : L.length ≤ 64 := by omega
    refine l_q (q_move (v := .slice _ _ _) rfl rfl) ?_
    refine l_o (o_call Try.call67 rfl (all_ints_of (f := SV.enc) sv0 Try.call68 (hl.below hB) (fun w' hw x hx => pureExt (repeat1_ret _ _)) (by omega)) rfl ?_)
    rintro _ w5 ⟨rfl, hE5⟩
    replace hB := below_ext hB hE5 hsz
    replace hsz := Nat.le_trans hsz hE5.size
    refine l_q (q_not rfl rfl) ?_
    refine l_q (q_pick_f (v := .bool _) rfl rfl rfl) ?_
    refine l_q (q_assign (v := .bool _) rfl rfl) ?_
    refine l_nil ?_
    refine r_forget [(0, .slice _ _ _), (2, .int _ _), (3, .int _ _), (5, .bool _)] ⟨rfl, rfl, rfl, rfl, trivial⟩ (fun e6 => ?_)
    refine r_cond rfl (fun hc7 => ?_) (fun hc7 => ?_)
    · skip
      try simp only [decide_eq_true_eq, decide_eq_false_iff_not, Bool.not_eq_true', Bool.not_eq_false', Bool.not_not, Bool.not_true, Bool.not_false, Bool.not_eq_true, Bool.not_eq_false, Int.not_lt, Int.not_le, Bool.and_eq_true, Bool.or_eq_true, Bool.and_eq_false_iff, Bool.or_eq_false_iff] at hc7
      have h3 := hc7
      refine r_seq ?_
      refine r_region' ?_
      refine l_q (q_assign (v := .int _ _) rfl rfl) ?_
      refine l_q (q_assign (v := .int _ _) rfl rfl) ?_
      refine l_q (q_assign (v := .int _ _) rfl rfl) ?_
      refine l_nil ?_
      refine r_forget [(2, .int _ _), (3, .int _ _), (4, .int _ _)] ⟨rfl, rfl, rfl, trivial⟩ (fun e8 => ?_)
      refine r_ret_ (vs := [.int _ _, .int _ _, .int _ _]) rfl Try.func37 rfl (.nil _) ⟨rfl, rfl, rfl, trivial⟩ ?_
      exact ⟨tup3 (vint_eq (by rw [rep_err (lf_three L (by first | exact .inl (by omega) | exact .inr h3)) (by decide)])) (vint_eq (by rw [rep_err (lf_three L (by first | exact .inl (by omega) | exact .inr h3)) (by decide)])) (vint_eq (by rw [rep_err (lf_three L (by first | exact .inl (by omega) | exact .inr h3)) (by decide)])), Ext.of_below hB⟩
    · skip
      try simp only [decide_eq_true_eq, decide_eq_false_iff_not, Bool.not_eq_true', Bool.not_eq_false', Bool.not_not, Bool.not_true, Bool.not_false, Bool.not_eq_true, Bool.not_eq_false, Int.not_lt, Int.not_le, Bool.and_eq_true, Bool.or_eq_true, Bool.and_eq_false_iff, Bool.or_eq_false_iff] at hc7
      have h3 := all5 hc7
      refine r_seq ?_
      refine r_region' ?_
      refine l_q (q_move (v := .slice _ _ _) rfl rfl) ?_
      refine l_q (q_len rfl Try.underlying48 rfl rfl) ?_
      refine l_q (q_eql rfl rfl rfl) ?_
      refine l_q (q_move (v := .bool _) rfl rfl) ?_
      refine l_part 18 rfl (fun hc9 => ?_) (fun hc9 => ?_)
      · skip
        try simp only [decide_eq_true_eq, decide_eq_false_iff_not, Bool.not_eq_true', Bool.not_eq_false', Bool.not_not, Bool.not_true, Bool.not_false, Bool.not_eq_true, Bool.not_eq_false, Int.not_lt, Int.not_le, Bool.and_eq_true, Bool.or_eq_true, Bool.and_eq_false_iff, Bool.or_eq_false_iff] at hc9
        refine l_q (q_skip rfl) ?_
        refine l_q (q_skip rfl) ?_
        refine l_q (q_skip rfl) ?_
        refine l_q (q_skip rfl) ?_
        refine l_q (q_pick_t (v := .bool _) rfl rfl rfl) ?_
        refine l_q (q_assign (v := .bool _) rfl rfl) ?_
        refine l_nil ?_
        refine r_forget [(0, .slice _ _ _), (2, .int _ _), (3, .int _ _), (14, .bool _)] ⟨rfl, rfl, rfl, rfl, trivial⟩ (fun e10 => ?_)
        refine r_cond_t rfl ?_
        refine r_seq ?_
        refine r_region' ?_
        refine l_q (q_assign (v := .int _ _) rfl rfl) ?_
        refine l_q (q_assign (v := .int _ _) rfl rfl) ?_
        refine l_q (q_assign (v := .int _ _) rfl rfl) ?_
        refine l_nil ?_
        refine r_forget [(2, .int _ _), (3, .int _ _), (4, .int _ _)] ⟨rfl, rfl, rfl, trivial⟩ (fun e11 => ?_)
        refine r_ret_ (vs := [.int _ _, .int _ _, .int _ _]) rfl Try.func37 rfl (.nil _) ⟨rfl, rfl, rfl, trivial⟩ ?_
        exact ⟨tup3 (vint_eq (by rw [rep_err (lf_two L h64 h3 (by first | exact .inl (by omega) | exact .inr h2)) (by decide)])) (vint_eq (by rw [rep_err (lf_two L h64 h3 (by first | exact .inl (by omega) | exact .inr h2)) (by decide)])) (vint_eq (by rw [rep_err (lf_two L h64 h3 (by first | exact .inl (by omega) | exact .inr h2)) (by decide)])), Ext.of_below hB⟩
      · skip
        try simp only [decide_eq_true_eq, decide_eq_false_iff_not, Bool.not_eq_true', Bool.not_eq_false', Bool.not_not, Bool.not_true, Bool.not_false, Bool.not_eq_true, Bool.not_eq_false, Int.not_lt, Int.not_le, Bool.and_eq_true, Bool.or_eq_true, Bool.and_eq_false_iff, Bool.or_eq_false_iff] at hc9
        have h0 : L.length ≠ 0 := by omega
        refine l_q (q_move (v := .slice _ _ _) rfl rfl) ?_
        refine l_o (o_call Try.call69 rfl (concat_ret _ _ L _ (hl.below hB) (hlr.below hB) (by omega) (by assumption)) rfl ?_)
        rintro _ w12 ⟨a12_0, c12_0, rfl, ho12_0, hE12⟩
        replace ho12_0 := own_mono ho12_0 (show w.heap.size ≤ _ by omega)
        replace hB := below_ext hB hE12 hsz
        replace hsz := Nat.le_trans hsz hE12.size
        refine l_o (o_call Try.call53 rfl (all_int_of 0 Try.call70 (Row.of_owns ho12_0) (fun w' hw x hx => pureExt (repeat2_ret _ _)) (by have := catL_le hle; omega)) rfl ?_)
        rintro _ w13 ⟨rfl, hE13⟩
        replace hB := below_ext hB hE13 hsz
        replace ho12_0 := own_ext ho12_0 hE13
        replace hsz := Nat.le_trans hsz hE13.size
        refine l_q (q_not rfl rfl) ?_
        refine l_q (q_pick_f (v := .bool _) rfl rfl rfl) ?_
        refine l_q (q_assign (v := .bool _) rfl rfl) ?_
        refine l_nil ?_
        refine r_forget [(0, .slice _ _ _), (2, .int _ _), (3, .int _ _), (14, .bool _)] ⟨rfl, rfl, rfl, rfl, trivial⟩ (fun e14 => ?_)
        refine r_cond rfl (fun hc15 => ?_) (fun hc15 => ?_)
        · skip
          try simp only [decide_eq_true_eq, decide_eq_false_iff_not, Bool.not_eq_true', Bool.not_eq_false', Bool.not_not, Bool.not_true, Bool.not_false, Bool.not_eq_true, Bool.not_eq_false, Int.not_lt, Int.not_le, Bool.and_eq_true, Bool.or_eq_true, Bool.and_eq_false_iff, Bool.or_eq_false_iff] at hc15
          have h2 := hc15
          refine r_seq ?_
          refine r_region' ?_
          refine l_q (q_assign (v := .int _ _) rfl rfl) ?_
          refine l_q (q_assign (v := .int _ _) rfl rfl) ?_
          refine l_q (q_assign (v := .int _ _) rfl rfl) ?_
          refine l_nil ?_
          refine r_forget [(2, .int _ _), (3, .int _ _), (4, .int _ _)] ⟨rfl, rfl, rfl, trivial⟩ (fun e16 => ?_)
          refine r_ret_ (vs := [.int _ _, .int _ _, .int _ _]) rfl Try.func37 rfl (.nil _) ⟨rfl, rfl, rfl, trivial⟩ ?_
          exact ⟨tup3 (vint_eq (by rw [rep_err (lf_two L h64 h3 (by first | exact .inl (by omega) | exact .inr h2)) (by decide)])) (vint_eq (by rw [rep_err (lf_two L h64 h3 (by first | exact .inl (by omega) | exact .inr h2)) (by decide)])) (vint_eq (by rw [rep_err (lf_two L h64 h3 (by first | exact .inl (by omega) | exact .inr h2)) (by decide)])), Ext.of_below hB⟩
        · skip
          try simp only [decide_eq_true_eq, decide_eq_false_iff_not, Bool.not_eq_true', Bool.not_eq_false', Bool.not_not, Bool.not_true, Bool.not_false, Bool.not_eq_true, Bool.not_eq_false, Int.not_lt, Int.not_le, Bool.and_eq_true, Bool.or_eq_true, Bool.and_eq_false_iff, Bool.or_eq_false_iff] at hc15
          have h2 := allc hc15
          refine r_seq ?_
          refine r_region' ?_
          refine l_q (q_move (v := .slice _ _ _) rfl rfl) ?_
          refine l_o (o_call Try.call71 rfl (fdecides_ret _ _ L 0 5 _ (hl.below hB) (hlr.below hB) (by omega) (by assumption) (by omega) (by omega)) rfl ?_)
          rintro _ w17 ⟨rfl, hE17⟩
          replace hB := below_ext hB hE17 hsz
          replace ho12_0 := own_ext ho12_0 hE17
          replace hsz := Nat.le_trans hsz hE17.size
          refine l_q (q_not rfl rfl) ?_
          refine l_q (q_assign (v := .bool _) rfl rfl) ?_
          refine l_nil ?_
          refine r_forget [(0, .slice _ _ _), (2, .int _ _), (3, .int _ _), (24, .bool _)] ⟨rfl, rfl, rfl, rfl, trivial⟩ (fun e18 => ?_)
          refine r_cond rfl (fun hc19 => ?_) (fun hc19 => ?_)
          · skip
            try simp only [decide_eq_true_eq, decide_eq_false_iff_not, Bool.not_eq_true', Bool.not_eq_false', Bool.not_not, Bool.not_true, Bool.not_false, Bool.not_eq_true, Bool.not_eq_false, Int.not_lt, Int.not_le, Bool.and_eq_true, Bool.or_eq_true, Bool.and_eq_false_iff, Bool.or_eq_false_iff] at hc19
            have hd := hc19
            refine r_seq ?_
            refine r_region' ?_
            refine l_q (q_assign (v := .int _ _) rfl rfl) ?_
            refine l_q (q_assign (v := .int _ _) rfl rfl) ?_
            refine l_q (q_assign (v := .int _ _) rfl rfl) ?_
            refine l_nil ?_
            refine r_forget [(2, .int _ _), (3, .int _ _), (4, .int _ _)] ⟨rfl, rfl, rfl, trivial⟩ (fun e20 => ?_)
            refine r_ret_ (vs := [.int _ _, .int _ _, .int _ _]) rfl Try.func37 rfl (.nil _) ⟨rfl, rfl, rfl, trivial⟩ ?_
            exact ⟨tup3 (vint_eq (by rw [rep_err (lf_six h64 h3 h2 h0 hd) (by decide)])) (vint_eq (by rw [rep_err (lf_six h64 h3 h2 h0 hd) (by decide)])) (vint_eq (by rw [rep_err (lf_six h64 h3 h2 h0 hd) (by decide)])), Ext.of_below hB⟩
          · skip
            try simp only [decide_eq_true_eq, decide_eq_false_iff_not, Bool.not_eq_true', Bool.not_eq_false', Bool.not_not, Bool.not_true, Bool.not_false, Bool.not_eq_true, Bool.not_eq_false, Int.not_lt, Int.not_le, Bool.and_eq_true, Bool.or_eq_true, Bool.and_eq_false_iff, Bool.or_eq_false_iff] at hc19
            have hd := hc19
            refine r_skip ?_
            refine r_inBlock ?_
            refine r_seq ?_
            refine r_label ?_
            refine r_seq ?_
            refine r_seq ?_
            refine r_region' ?_
            refine l_q (q_move (v := .int _ _) rfl rfl) ?_
            refine l_nil ?_
            refine r_forget [(0, .slice _ _ _), (2, .int _ _), (3, .int _ _), (28, .int _ _)] ⟨rfl, rfl, rfl, rfl, trivial⟩ (fun e21 => ?_)
            refine r_block ?_
            refine r_rounds (α := Nat × Int × Int) (fun ⟨m, x2, x3⟩ e wl => Knows e [(0, .slice la L.length lc), (2, vint x2), (3, vint x3), (28, vint (m : Int))] ∧ (m ≤ 6) ∧ (∀ i, i < m * 5 → decidesB (L.map (·.xs)) (i % 5) (i / 5) = false) ∧ (wl.ownsRow w.heap.size 3 1 (.slice a12_0 ((catL L).length) c12_0) ((catL L).length) ((catL L).map vint)) ∧ (w.heap.size ≤ wl.heap.size) ∧ (Below w.heap.size w wl)) (fun ⟨m, x2, x3⟩ => 6 - m) (0, 0, 0) ?_ ?_
            · skip
              exact ⟨⟨rfl, rfl, rfl, rfl, trivial⟩, (Nat.zero_le _), (fun i hi => by omega), ho12_0, hsz, hB⟩
            · skip
              rintro ⟨m, x2, x3⟩ el22 wl22 ⟨hkn, hkm, hq, ho12_0, hsz, hB⟩ ih22
              obtain ⟨e22, rfl⟩ := knows_env hkn
              refine r_seq ?_
              refine r_region' ?_
              refine l_q (q_lss rfl rfl rfl) ?_
              refine l_nil ?_
              refine r_seq ?_
              refine r_cond rfl (fun hc23 => ?_) (fun hc23 => ?_)
              · skip
                try simp only [decide_eq_true_eq, decide_eq_false_iff_not, Bool.not_eq_true', Bool.not_eq_false', Bool.not_not, Bool.not_true, Bool.not_false, Bool.not_eq_true, Bool.not_eq_false, Int.not_lt, Int.not_le, Bool.and_eq_true, Bool.or_eq_true, Bool.and_eq_false_iff, Bool.or_eq_false_iff] at hc23
                refine r_skip ?_
                refine r_seq ?_
                refine r_block ?_
                refine r_seq ?_
                refine r_region' ?_
                refine l_q (q_move (v := .int _ _) rfl rfl) ?_
                refine l_q (q_assign (v := .int _ _) rfl rfl) ?_
                refine l_nil ?_
                refine r_forget [(0, .slice _ _ _), (2, .int _ _), (3, .int _ _), (28, .int _ _)] ⟨rfl, rfl, rfl, rfl, trivial⟩ (fun e24 => ?_)
                refine r_seq ?_
                refine r_region' ?_
                refine l_q (q_move (v := .int _ _) rfl rfl) ?_
                refine l_nil ?_
                refine r_block ?_
                refine r_rounds (α := Nat × Int) (fun ⟨f, y2⟩ e wl => Knows e [(0, .slice la L.length lc), (2, vint y2), (3, vint (m : Int)), (28, vint (m : Int)), (31, vint (f : Int))] ∧ (f ≤ 5) ∧ (∀ i, i < m * 5 + f → decidesB (L.map (·.xs)) (i % 5) (i / 5) = false) ∧ (wl.ownsRow w.heap.size 3 1 (.slice a12_0 ((catL L).length) c12_0) ((catL L).length) ((catL L).map vint)) ∧ (w.heap.size ≤ wl.heap.size) ∧ (Below w.heap.size w wl)) (fun ⟨f, y2⟩ => 5 - f) (0, x2) ?_ ?_
                · skip
                  exact ⟨⟨rfl, rfl, rfl, rfl, rfl, trivial⟩, (Nat.zero_le _), (fun i hi => hq i (by omega)), ho12_0, hsz, hB⟩
                · skip
                  rintro ⟨f, y2⟩ el25 wl25 ⟨hkn, hkf, hr, ho12_0, hsz, hB⟩ ih25
                  obtain ⟨e25, rfl⟩ := knows_env hkn
                  refine r_seq ?_
                  refine r_region' ?_
                  refine l_q (q_lss rfl rfl rfl) ?_
                  refine l_nil ?_
                  refine r_seq ?_
                  refine r_cond rfl (fun hc26 => ?_) (fun hc26 => ?_)
                  · skip
                    try simp only [decide_eq_true_eq, decide_eq_false_iff_not, Bool.not_eq_true', Bool.not_eq_false', Bool.not_not, Bool.not_true, Bool.not_false, Bool.not_eq_true, Bool.not_eq_false, Int.not_lt, Int.not_le, Bool.and_eq_true, Bool.or_eq_true, Bool.and_eq_false_iff, Bool.or_eq_false_iff] at hc26
                    refine r_skip ?_
                    refine r_seq ?_
                    refine r_block ?_
                    refine r_seq ?_
                    refine r_region' ?_
                    refine l_q (q_move (v := .int _ _) rfl rfl) ?_
                    refine l_q (q_assign (v := .int _ _) rfl rfl) ?_
                    refine l_nil ?_
                    refine r_forget [(0, .slice _ _ _), (2, .int _ _), (3, .int _ _), (28, .int _ _), (31, .int _ _)] ⟨rfl, rfl, rfl, rfl, rfl, trivial⟩ (fun e27 => ?_)
                    refine r_seq ?_
                    refine r_region' ?_
                    refine l_q (q_move (v := .slice _ _ _) rfl rfl) ?_
                    refine l_q (q_move (v := .int _ _) rfl rfl) ?_
                    refine l_q (q_move (v := .int _ _) rfl rfl) ?_
                    refine l_o (o_call Try.call71 rfl (fdecides_ret _ _ L f m _ (hl.below hB) (hlr.below hB) (by omega) (by assumption) (by omega) (by omega)) rfl ?_)
                    rintro _ w28 ⟨rfl, hE28⟩
                    replace hB := below_ext hB hE28 hsz
                    replace ho12_0 := own_ext ho12_0 hE28
                    replace hsz := Nat.le_trans hsz hE28.size
                    refine l_nil ?_
                    refine r_forget [(0, .slice _ _ _), (2, .int _ _), (3, .int _ _), (28, .int _ _), (31, .int _ _), (37, .bool _)] ⟨rfl, rfl, rfl, rfl, rfl, rfl, trivial⟩ (fun e29 => ?_)
                    refine r_cond rfl (fun hc30 => ?_) (fun hc30 => ?_)
                    · skip
                      try simp only [decide_eq_true_eq, decide_eq_false_iff_not, Bool.not_eq_true', Bool.not_eq_false', Bool.not_not, Bool.not_true, Bool.not_false, Bool.not_eq_true, Bool.not_eq_false, Int.not_lt, Int.not_le, Bool.and_eq_true, Bool.or_eq_true, Bool.and_eq_false_iff, Bool.or_eq_false_iff] at hc30
                      refine r_exit rfl ?_
                      refine r_seq ?_
                      refine r_region' ?_
                      refine l_q (q_move (v := .int _ _) rfl rfl) ?_
                      refine l_q (q_move (v := .int _ _) rfl rfl) ?_
                      refine l_q (q_assign (v := .int _ _) rfl rfl) ?_
                      refine l_q (q_assign (v := .int _ _) rfl rfl) ?_
                      refine l_q (q_assign (v := .int _ _) rfl rfl) ?_
                      refine l_nil ?_
                      refine r_forget [(2, .int _ _), (3, .int _ _), (4, .int _ _)] ⟨rfl, rfl, rfl, trivial⟩ (fun e31 => ?_)
                      refine r_ret_ (vs := [.int _ _, .int _ _, .int _ _]) rfl Try.func37 rfl (.nil _) ⟨rfl, rfl, rfl, trivial⟩ ?_
                      exact ⟨tup3 (vint_eq (by rw [rep_ok (m := m) (f := f) (lf_ok h64 h3 h2 h0 hd) (by omega) (by omega) (by assumption) hr])) (vint_eq (by rw [rep_ok (m := m) (f := f) (lf_ok h64 h3 h2 h0 hd) (by omega) (by omega) (by assumption) hr])) (vint_eq (by rw [rep_ok (m := m) (f := f) (lf_ok h64 h3 h2 h0 hd) (by omega) (by omega) (by assumption) hr])), Ext.of_below hB⟩
                    · skip
                      try simp only [decide_eq_true_eq, decide_eq_false_iff_not, Bool.not_eq_true', Bool.not_eq_false', Bool.not_not, Bool.not_true, Bool.not_false, Bool.not_eq_true, Bool.not_eq_false, Int.not_lt, Int.not_le, Bool.and_eq_true, Bool.or_eq_true, Bool.and_eq_false_iff, Bool.or_eq_false_iff] at hc30
                      refine r_skip ?_
                      refine r_inBlock ?_
                      refine r_region' ?_
                      refine l_q (q_add rfl rfl (by omega) rfl) ?_
                      refine l_q (q_move (v := .int _ _) rfl rfl) ?_
                      refine l_nil ?_
                      refine r_forget [(0, .slice _ _ _), (2, .int _ _), (3, .int _ _), (28, .int _ _), (31, .int _ _)] ⟨rfl, rfl, rfl, rfl, rfl, trivial⟩ (fun e32 => ?_)
                      exact ih25 (f + 1, (f : Int)) _ _ ⟨⟨rfl, rfl, rfl, rfl, by first | rfl | exact vint_eq (by omega), trivial⟩, (by omega), (fun i hi => by rcases (show i < m * 5 + f ∨ i = m * 5 + f by omega) with h | h; exact hr i h; rw [h, show (m * 5 + f) % 5 = f by omega, show (m * 5 + f) / 5 = m by omega]; assumption), ho12_0, hsz, hB⟩ (by first | omega | (dsimp only; omega))
                  · skip
                    try simp only [decide_eq_true_eq, decide_eq_false_iff_not, Bool.not_eq_true', Bool.not_eq_false', Bool.not_not, Bool.not_true, Bool.not_false, Bool.not_eq_true, Bool.not_eq_false, Int.not_lt, Int.not_le, Bool.and_eq_true, Bool.or_eq_true, Bool.and_eq_false_iff, Bool.or_eq_false_iff] at hc26
                    refine r_exit rfl ?_
                    refine r_inBlock ?_
                    refine r_region' ?_
                    refine l_q (q_add rfl rfl (by omega) rfl) ?_
                    refine l_q (q_move (v := .int _ _) rfl rfl) ?_
                    refine l_nil ?_
                    refine r_forget [(0, .slice _ _ _), (2, .int _ _), (3, .int _ _), (28, .int _ _)] ⟨rfl, rfl, rfl, rfl, trivial⟩ (fun e33 => ?_)
                    exact ih22 (m + 1, y2, (m : Int)) _ _ ⟨⟨rfl, rfl, rfl, by first | rfl | exact vint_eq (by omega), trivial⟩, (by omega), (fun i hi => hr i (by omega)), ho12_0, hsz, hB⟩ (by first | omega | (dsimp only; omega))
              · skip
                try simp only [decide_eq_true_eq, decide_eq_false_iff_not, Bool.not_eq_true', Bool.not_eq_false', Bool.not_not, Bool.not_true, Bool.not_false, Bool.not_eq_true, Bool.not_eq_false, Int.not_lt, Int.not_le, Bool.and_eq_true, Bool.or_eq_true, Bool.and_eq_false_iff, Bool.or_eq_false_iff] at hc23
                exact absurd (hd.symm.trans (hq 25 (by omega))) (by decide)
theorem list_ret (xa : Option Addr) (xc : Nat) (xs : List Int) (w : World) (hx : Row w xa xs.length xc 1 (xs.map vint)) (hxn : xs.length ≤ 2097152) : Ret Try.prog 22 [.slice xa xs.length xc] w (fun v w' => ∃ ra0 rc0, v = .slice ra0 (xs).length rc0 ∧ w'.ownsRow w.heap.size 3 1 (.slice ra0 (xs).length rc0) (xs).length ((xs).map vint) ∧ Ext w w') := by
  have hB := Below.refl w.heap.size w
  have hsz : w.heap.size ≤ w.heap.size := Nat.le_refl _
  refine ret_of_runs (args := [_]) Try.func22 rfl (Nat.le_of_ble_eq_true rfl) (by kernel_rfl) ?_
  refine r_seq ?_
  refine r_region' ?_
  refine l_q (q_assign (v := .slice _ _ _) rfl rfl) ?_
  refine l_nil ?_
  refine r_forget [(0, .slice _ _ _)] ⟨rfl, trivial⟩ (fun e1 => ?_)
  refine r_seq ?_
  refine r_region' ?_
  refine l_o (o_buildSlice (el := 3) (cs := []) Try.underlying25 el3 (by decide) (by kernel_rfl) rfl (by decide) rfl ?_)
  intro b2 w2 hzl2 hzr2 _ hb2 hE2 ho2
  have hbs_b2 : w.heap.size ≤ b2 := Nat.le_trans hsz hzl2
  replace hB := below_ext hB hE2 hsz
  replace hsz := Nat.le_trans hsz hE2.size
  refine l_q (q_move (v := .slice _ _ _) rfl rfl) ?_
  refine l_o (o_append_map (f := vint) ([]) (xs) Try.underlying25 el3 rfl rfl ho2 rfl (hx.below hB) (fun _ => rfl) (by (try simp only [List.length_append, List.length_cons, List.length_nil, List.length_take, List.length_drop, List.length_replicate]); omega) (by omega) rfl ?_)
  intro a3 c3 w3 hz3 ho3 hG3
  replace hB := below_own hB hG3 ho2 (by omega) hsz
  replace hsz := Nat.le_trans hsz hG3.size
  refine l_q (q_assign (v := .slice _ _ _) rfl rfl) ?_
  refine l_nil ?_
  refine r_forget [(2, .slice _ _ _)] ⟨rfl, trivial⟩ (fun e4 => ?_)
  refine r_ret_ (vs := [.slice _ _ _]) rfl Try.func22 rfl (.nil _) ⟨rfl, trivial⟩ ?_
  exact ⟨_, _, rfl, ho3, Ext.of_below hB⟩
theorem step_ret (kind : Int) (sent read : Sg) (w : World) (hs : sent.length ≤ 2097152) (hr : read.length ≤ 2097152) : Ret Try.prog 63 [vint kind, vstr sent, vstr read] w (fun v w' => v = .tuple ⟨[vstr ((stepR kind sent read).1), vstr ((stepR kind sent read).2.1), .bool ((stepR kind sent read).2.2)]⟩ ∧ Ext w w') := by
  have hB := Below.refl w.heap.size w
  have hsz : w.heap.size ≤ w.heap.size := Nat.le_refl _
  refine ret_of_runs (args := [_, _, _]) Try.func63 rfl (Nat.le_of_ble_eq_true rfl) (by kernel_rfl) ?_
  refine r_seq ?_
  refine r_region' ?_
  refine l_q (q_assign (v := .string _) rfl rfl) ?_
  refine l_q (q_assign (v := .string _) rfl rfl) ?_
  refine l_q (q_assign (v := .bool _) rfl rfl) ?_
  refine l_nil ?_
  refine r_forget [(0, .int _ _), (1, .string _), (2, .string _)] ⟨rfl, rfl, rfl, trivial⟩ (fun e1 => ?_)
  refine r_seq ?_
  refine r_region' ?_
  refine l_q (q_assign (v := .int _ _) rfl rfl) ?_
  refine l_q (q_assign (v := .string _) rfl rfl) ?_
  refine l_nil ?_
  refine r_seq ?_
  refine r_seq ?_
  refine r_region' ?_
  refine l_q (q_move (v := .int _ _) rfl rfl) ?_
  refine l_nil ?_
  refine r_forget [(1, .string _), (2, .string _), (9, .int _ _), (10, .string _), (11, .int _ _)] ⟨rfl, rfl, rfl, rfl, rfl, trivial⟩ (fun e2 => ?_)
  refine r_block ?_
  refine r_seq ?_
  refine r_region' ?_
  refine l_q (q_eql rfl rfl rfl) ?_
  refine l_q (q_assign (v := .bool _) rfl rfl) ?_
  refine l_nil ?_
  refine r_forget [(1, .string _), (2, .string _), (9, .int _ _), (10, .string _), (11, .int _ _), (12, .bool _)] ⟨rfl, rfl, rfl, rfl, rfl, rfl, trivial⟩ (fun e3 => ?_)
  refine r_cond rfl (fun hc4 => ?_) (fun hc4 => ?_)
  · skip
    try simp only [decide_eq_true_eq, decide_eq_false_iff_not, Bool.not_eq_true', Bool.not_eq_false', Bool.not_not, Bool.not_true, Bool.not_false, Bool.not_eq_true, Bool.not_eq_false, Int.not_lt, Int.not_le, Bool.and_eq_true, Bool.or_eq_true, Bool.and_eq_false_iff, Bool.or_eq_false_iff] at hc4
    refine r_seq ?_
    refine r_seq ?_
    refine r_region' ?_
    refine l_q (q_move (v := .string _) rfl rfl) ?_
    refine l_q (q_eql_str rfl rfl rfl) ?_
    refine l_nil ?_
    refine r_forget [(1, .string _), (2, .string _), (9, .int _ _), (15, .bool _)] ⟨rfl, rfl, rfl, rfl, trivial⟩ (fun e5 => ?_)
    refine r_cond rfl (fun hc6 => ?_) (fun hc6 => ?_)
    · skip
      try simp only [decide_eq_true_eq, decide_eq_false_iff_not, Bool.not_eq_true', Bool.not_eq_false', Bool.not_not, Bool.not_true, Bool.not_false, Bool.not_eq_true, Bool.not_eq_false, Int.not_lt, Int.not_le, Bool.and_eq_true, Bool.or_eq_true, Bool.and_eq_false_iff, Bool.or_eq_false_iff] at hc6
      refine r_seq ?_
      refine r_region' ?_
      refine l_q (q_assign (v := .string _) rfl rfl) ?_
      refine l_q (q_assign (v := .string _) rfl rfl) ?_
      refine l_q (q_assign (v := .bool _) rfl rfl) ?_
      refine l_nil ?_
      refine r_forget [(6, .string _), (7, .string _), (8, .bool _)] ⟨rfl, rfl, rfl, trivial⟩ (fun e7 => ?_)
      refine r_ret_ (vs := [.string _, .string _, .bool _]) rfl Try.func63 rfl (.nil _) ⟨rfl, rfl, rfl, trivial⟩ ?_
      have htw : stepTW kind sent = none := by unfold stepTW; simp_all <;> (first | omega | (intro h; omega))
      exact ⟨tup3 (vstr_eq (congrArg (fun p => p.1) (stepR_none htw)).symm) (vstr_eq (congrArg (fun p => p.2.1) (stepR_none htw)).symm) (vbool_eq (congrArg (fun p => p.2.2) (stepR_none htw)).symm), Ext.of_below hB⟩
    · skip
      try simp only [decide_eq_true_eq, decide_eq_false_iff_not, Bool.not_eq_true', Bool.not_eq_false', Bool.not_not, Bool.not_true, Bool.not_false, Bool.not_eq_true, Bool.not_eq_false, Int.not_lt, Int.not_le, Bool.and_eq_true, Bool.or_eq_true, Bool.and_eq_false_iff, Bool.or_eq_false_iff] at hc6
      have hsl : 1 ≤ sent.length := List.length_pos_iff.2 hc6
      refine r_skip ?_
      refine r_region' ?_
      refine l_q (q_move (v := .string _) rfl rfl) ?_
      refine l_q (q_slice_str_hi Try.underlying9 rfl rfl (by omega) rfl) ?_
      refine l_q (q_assign (v := .string _) rfl rfl) ?_
      refine l_nil ?_
      refine r_forget [(1, .string _), (2, .string _), (9, .int _ _), (10, .string _)] ⟨rfl, rfl, rfl, rfl, trivial⟩ (fun e8 => ?_)
      refine r_inBlock ?_
      refine r_seq ?_
      refine r_seq ?_
      have htw : stepTW kind sent = some (1, (sent).take 1) := by unfold stepTW; simp_all <;> omega
      refine r_region' ?_
      refine l_q (q_move (v := .string _) rfl rfl) ?_
      refine l_q (q_len_str rfl Try.underlying9 rfl rfl) ?_
      refine l_q (q_move (v := .string _) rfl rfl) ?_
      refine l_q (q_len_str rfl Try.underlying9 rfl rfl) ?_
      refine l_q (q_lss rfl rfl rfl) ?_
      refine l_q (q_move (v := .bool _) rfl rfl) ?_
      refine l_part 62 rfl (fun hc9 => ?_) (fun hc9 => ?_)
      · skip
        try simp only [decide_eq_true_eq, decide_eq_false_iff_not, Bool.not_eq_true', Bool.not_eq_false', Bool.not_not, Bool.not_true, Bool.not_false, Bool.not_eq_true, Bool.not_eq_false, Int.not_lt, Int.not_le, Bool.and_eq_true, Bool.or_eq_true, Bool.and_eq_false_iff, Bool.or_eq_false_iff] at hc9
        have hpf := pfx_short hc9
        refine l_q (q_skip rfl) ?_
        refine l_q (q_skip rfl) ?_
        refine l_q (q_skip rfl) ?_
        refine l_q (q_skip rfl) ?_
        refine l_q (q_skip rfl) ?_
        refine l_q (q_skip rfl) ?_
        refine l_q (q_pick_t (v := .bool _) rfl rfl rfl) ?_
        refine l_nil ?_
        refine r_forget [(1, .string _), (2, .string _), (9, .int _ _), (10, .string _), (69, .bool _)] ⟨rfl, rfl, rfl, rfl, rfl, trivial⟩ (fun e10 => ?_)
        refine r_cond_t rfl ?_
        refine r_seq ?_
        refine r_region' ?_
        refine l_q (q_assign (v := .string _) rfl rfl) ?_
        refine l_q (q_assign (v := .string _) rfl rfl) ?_
        refine l_q (q_assign (v := .bool _) rfl rfl) ?_
        refine l_nil ?_
        refine r_forget [(6, .string _), (7, .string _), (8, .bool _)] ⟨rfl, rfl, rfl, trivial⟩ (fun e11 => ?_)
        refine r_ret_ (vs := [.string _, .string _, .bool _]) rfl Try.func63 rfl (.nil _) ⟨rfl, rfl, rfl, trivial⟩ ?_
        exact ⟨tup3 (vstr_eq (congrArg (fun p => p.1) (stepR_no htw hpf)).symm) (vstr_eq (congrArg (fun p => p.2.1) (stepR_no htw hpf)).symm) (vbool_eq (congrArg (fun p => p.2.2) (stepR_no htw hpf)).symm), Ext.of_below hB⟩
      · skip
        try simp only [decide_eq_true_eq, decide_eq_false_iff_not, Bool.not_eq_true', Bool.not_eq_false', Bool.not_not, Bool.not_true, Bool.not_false, Bool.not_eq_true, Bool.not_eq_false, Int.not_lt, Int.not_le, Bool.and_eq_true, Bool.or_eq_true, Bool.and_eq_false_iff, Bool.or_eq_false_iff] at hc9
        refine l_q (q_move (v := .string _) rfl rfl) ?_
        refine l_q (q_move (v := .string _) rfl rfl) ?_
        refine l_q (q_len_str rfl Try.underlying9 rfl rfl) ?_
        refine l_q (q_slice_str_hi Try.underlying9 rfl rfl (by omega) rfl) ?_
        refine l_q (q_move (v := .string _) rfl rfl) ?_
        refine l_q (q_neq_str rfl rfl rfl) ?_
        refine l_q (q_pick_f (v := .bool _) rfl rfl rfl) ?_
        refine l_nil ?_
        refine r_forget [(1, .string _), (2, .string _), (9, .int _ _), (10, .string _), (69, .bool _)] ⟨rfl, rfl, rfl, rfl, rfl, trivial⟩ (fun e12 => ?_)
        refine r_cond rfl (fun hc13 => ?_) (fun hc13 => ?_)
        · skip
          try simp only [decide_eq_true_eq, decide_eq_false_iff_not, Bool.not_eq_true', Bool.not_eq_false', Bool.not_not, Bool.not_true, Bool.not_false, Bool.not_eq_true, Bool.not_eq_false, Int.not_lt, Int.not_le, Bool.and_eq_true, Bool.or_eq_true, Bool.and_eq_false_iff, Bool.or_eq_false_iff] at hc13
          have hpf := pfx_no hc13
          refine r_seq ?_
          refine r_region' ?_
          refine l_q (q_assign (v := .string _) rfl rfl) ?_
          refine l_q (q_assign (v := .string _) rfl rfl) ?_
          refine l_q (q_assign (v := .bool _) rfl rfl) ?_
          refine l_nil ?_
          refine r_forget [(6, .string _), (7, .string _), (8, .bool _)] ⟨rfl, rfl, rfl, trivial⟩ (fun e14 => ?_)
          refine r_ret_ (vs := [.string _, .string _, .bool _]) rfl Try.func63 rfl (.nil _) ⟨rfl, rfl, rfl, trivial⟩ ?_
          exact ⟨tup3 (vstr_eq (congrArg (fun p => p.1) (stepR_no htw hpf)).symm) (vstr_eq (congrArg (fun p => p.2.1) (stepR_no htw hpf)).symm) (vbool_eq (congrArg (fun p => p.2.2) (stepR_no htw hpf)).symm), Ext.of_below hB⟩
        · skip
          try simp only [decide_eq_true_eq, decide_eq_false_iff_not, Bool.not_eq_true', Bool.not_eq_false', Bool.not_not, Bool.not_true, Bool.not_false, Bool.not_eq_true, Bool.not_eq_false, Int.not_lt, Int.not_le, Bool.and_eq_true, Bool.or_eq_true, Bool.and_eq_false_iff, Bool.or_eq_false_iff] at hc13
          have hpf := pfx_yes hc13
          refine r_skip ?_
          refine r_seq ?_
          refine r_draw ext_refl' ext_trans' [0, 1, 2, 3, 4, 5, 6, 7, 8, 9] [] 2 (by kernel_rfl) (by kernel_rfl) ?_
          intro w15 _ hE15
          replace hB := below_ext hB hE15 hsz
          replace hsz := Nat.le_trans hsz hE15.size
          refine m_q rfl rfl (fun w' hC' => q_move (v := .string _) rfl rfl) ?_
          refine m_q rfl rfl (fun w' hC' => q_move (v := .int _ _) rfl rfl) ?_
          refine m_q rfl rfl (fun w' hC' => q_slice_str_lo Try.underlying9 rfl rfl (by omega) rfl) ?_
          refine m_q rfl rfl (fun w' hC' => q_move (v := .string _) rfl rfl) ?_
          refine m_q rfl rfl (fun w' hC' => q_move (v := .string _) rfl rfl) ?_
          refine m_q rfl rfl (fun w' hC' => q_len_str rfl Try.underlying9 rfl rfl) ?_
          refine m_q rfl rfl (fun w' hC' => q_slice_str_lo Try.underlying9 rfl rfl (by omega) rfl) ?_
          refine m_q rfl rfl (fun w' hC' => q_assign (v := .string _) rfl rfl) ?_
          refine m_q rfl rfl (fun w' hC' => q_assign (v := .string _) rfl rfl) ?_
          refine m_q rfl rfl (fun w' hC' => q_assign (v := .bool _) rfl rfl) ?_
          refine m_nil ?_
          refine r_forget [(6, .string _), (7, .string _), (8, .bool _)] ⟨rfl, rfl, rfl, trivial⟩ (fun e16 => ?_)
          refine r_ret_ (vs := [.string _, .string _, .bool _]) rfl Try.func63 rfl (.nil _) ⟨rfl, rfl, rfl, trivial⟩ ?_
          exact ⟨tup3 (vstr_eq (congrArg (fun p => p.1) (stepR_yes htw hpf)).symm) (vstr_eq (congrArg (fun p => p.2.1) (stepR_yes htw hpf)).symm) (vbool_eq (congrArg (fun p => p.2.2) (stepR_yes htw hpf)).symm), Ext.of_below hB⟩
  · skip
    try simp only [decide_eq_true_eq, decide_eq_false_iff_not, Bool.not_eq_true', Bool.not_eq_false', Bool.not_not, Bool.not_true, Bool.not_false, Bool.not_eq_true, Bool.not_eq_false, Int.not_lt, Int.not_le, Bool.and_eq_true, Bool.or_eq_true, Bool.and_eq_false_iff, Bool.or_eq_false_iff] at hc4
    refine r_seq ?_
    refine r_region' ?_
    refine l_q (q_eql rfl rfl rfl) ?_
    refine l_q (q_assign (v := .bool _) rfl rfl) ?_
    refine l_nil ?_
    refine r_forget [(1, .string _), (2, .string _), (9, .int _ _), (10, .string _), (11, .int _ _), (18, .bool _)] ⟨rfl, rfl, rfl, rfl, rfl, rfl, trivial⟩ (fun e17 => ?_)
    refine r_cond rfl (fun hc18 => ?_) (fun hc18 => ?_)
    · skip
      try simp only [decide_eq_true_eq, decide_eq_false_iff_not, Bool.not_eq_true', Bool.not_eq_false', Bool.not_not, Bool.not_true, Bool.not_false, Bool.not_eq_true, Bool.not_eq_false, Int.not_lt, Int.not_le, Bool.and_eq_true, Bool.or_eq_true, Bool.and_eq_false_iff, Bool.or_eq_false_iff] at hc18
      refine r_seq ?_
      refine r_region' ?_
      refine l_q (q_move (v := .string _) rfl rfl) ?_
      refine l_q (q_eql_str rfl rfl rfl) ?_
      refine l_q (q_move (v := .bool _) rfl rfl) ?_
      refine l_part 22 rfl (fun hc19 => ?_) (fun hc19 => ?_)
      · skip
        try simp only [decide_eq_true_eq, decide_eq_false_iff_not, Bool.not_eq_true', Bool.not_eq_false', Bool.not_not, Bool.not_true, Bool.not_false, Bool.not_eq_true, Bool.not_eq_false, Int.not_lt, Int.not_le, Bool.and_eq_true, Bool.or_eq_true, Bool.and_eq_false_iff, Bool.or_eq_false_iff] at hc19
        refine l_q (q_skip rfl) ?_
        refine l_q (q_skip rfl) ?_
        refine l_q (q_skip rfl) ?_
        refine l_q (q_pick_t (v := .bool _) rfl rfl rfl) ?_
        refine l_nil ?_
        refine r_forget [(1, .string _), (2, .string _), (9, .int _ _), (10, .string _), (26, .bool _)] ⟨rfl, rfl, rfl, rfl, rfl, trivial⟩ (fun e20 => ?_)
        refine r_cond_t rfl ?_
        refine r_seq ?_
        refine r_region' ?_
        refine l_q (q_assign (v := .string _) rfl rfl) ?_
        refine l_q (q_assign (v := .string _) rfl rfl) ?_
        refine l_q (q_assign (v := .bool _) rfl rfl) ?_
        refine l_nil ?_
        refine r_forget [(6, .string _), (7, .string _), (8, .bool _)] ⟨rfl, rfl, rfl, trivial⟩ (fun e21 => ?_)
        refine r_ret_ (vs := [.string _, .string _, .bool _]) rfl Try.func63 rfl (.nil _) ⟨rfl, rfl, rfl, trivial⟩ ?_
        have htw : stepTW kind sent = none := by unfold stepTW; simp_all <;> (first | omega | (intro h; omega))
        exact ⟨tup3 (vstr_eq (congrArg (fun p => p.1) (stepR_none htw)).symm) (vstr_eq (congrArg (fun p => p.2.1) (stepR_none htw)).symm) (vbool_eq (congrArg (fun p => p.2.2) (stepR_none htw)).symm), Ext.of_below hB⟩
      · skip
        try simp only [decide_eq_true_eq, decide_eq_false_iff_not, Bool.not_eq_true', Bool.not_eq_false', Bool.not_not, Bool.not_true, Bool.not_false, Bool.not_eq_true, Bool.not_eq_false, Int.not_lt, Int.not_le, Bool.and_eq_true, Bool.or_eq_true, Bool.and_eq_false_iff, Bool.or_eq_false_iff] at hc19
        have hsl : 1 ≤ sent.length := List.length_pos_iff.2 hc19
        refine l_q (q_move (v := .string _) rfl rfl) ?_
        refine l_q (q_index_str (c := (sent).getD 0 0) Try.underlying9 rfl rfl (by omega) (getD_some (by omega)) rfl) ?_
        refine l_q (q_eql rfl rfl rfl) ?_
        refine l_q (q_pick_f (v := .bool _) rfl rfl rfl) ?_
        refine l_nil ?_
        refine r_forget [(1, .string _), (2, .string _), (9, .int _ _), (10, .string _), (26, .bool _)] ⟨rfl, rfl, rfl, rfl, rfl, trivial⟩ (fun e22 => ?_)
        refine r_cond rfl (fun hc23 => ?_) (fun hc23 => ?_)
        · skip
          try simp only [decide_eq_true_eq, decide_eq_false_iff_not, Bool.not_eq_true', Bool.not_eq_false', Bool.not_not, Bool.not_true, Bool.not_false, Bool.not_eq_true, Bool.not_eq_false, Int.not_lt, Int.not_le, Bool.and_eq_true, Bool.or_eq_true, Bool.and_eq_false_iff, Bool.or_eq_false_iff] at hc23
          have hb := u8_eq (n := 32) hc23
          refine r_seq ?_
          refine r_region' ?_
          refine l_q (q_assign (v := .string _) rfl rfl) ?_
          refine l_q (q_assign (v := .string _) rfl rfl) ?_
          refine l_q (q_assign (v := .bool _) rfl rfl) ?_
          refine l_nil ?_
          refine r_forget [(6, .string _), (7, .string _), (8, .bool _)] ⟨rfl, rfl, rfl, trivial⟩ (fun e24 => ?_)
          refine r_ret_ (vs := [.string _, .string _, .bool _]) rfl Try.func63 rfl (.nil _) ⟨rfl, rfl, rfl, trivial⟩ ?_
          have htw : stepTW kind sent = none := by unfold stepTW; simp_all <;> (first | omega | (intro h; omega))
          exact ⟨tup3 (vstr_eq (congrArg (fun p => p.1) (stepR_none htw)).symm) (vstr_eq (congrArg (fun p => p.2.1) (stepR_none htw)).symm) (vbool_eq (congrArg (fun p => p.2.2) (stepR_none htw)).symm), Ext.of_below hB⟩
        · skip
          try simp only [decide_eq_true_eq, decide_eq_false_iff_not, Bool.not_eq_true', Bool.not_eq_false', Bool.not_not, Bool.not_true, Bool.not_false, Bool.not_eq_true, Bool.not_eq_false, Int.not_lt, Int.not_le, Bool.and_eq_true, Bool.or_eq_true, Bool.and_eq_false_iff, Bool.or_eq_false_iff] at hc23
          have hb := u8_ne (n := 32) hc23
          refine r_skip ?_
          refine r_inBlock ?_
          refine r_seq ?_
          refine r_seq ?_
          have htw : stepTW kind sent = some (1, []) := by unfold stepTW; simp_all <;> omega
          refine r_region' ?_
          refine l_q (q_move (v := .string _) rfl rfl) ?_
          refine l_q (q_len_str rfl Try.underlying9 rfl rfl) ?_
          refine l_q (q_move (v := .string _) rfl rfl) ?_
          refine l_q (q_len_str rfl Try.underlying9 rfl rfl) ?_
          refine l_q (q_lss rfl rfl rfl) ?_
          refine l_q (q_move (v := .bool _) rfl rfl) ?_
          refine l_part 62 rfl (fun hc25 => ?_) (fun hc25 => ?_)
          · skip
            try simp only [decide_eq_true_eq, decide_eq_false_iff_not, Bool.not_eq_true', Bool.not_eq_false', Bool.not_not, Bool.not_true, Bool.not_false, Bool.not_eq_true, Bool.not_eq_false, Int.not_lt, Int.not_le, Bool.and_eq_true, Bool.or_eq_true, Bool.and_eq_false_iff, Bool.or_eq_false_iff] at hc25
            have hpf := pfx_short hc25
            refine l_q (q_skip rfl) ?_
            refine l_q (q_skip rfl) ?_
            refine l_q (q_skip rfl) ?_
            refine l_q (q_skip rfl) ?_
            refine l_q (q_skip rfl) ?_
            refine l_q (q_skip rfl) ?_
            refine l_q (q_pick_t (v := .bool _) rfl rfl rfl) ?_
            refine l_nil ?_
            refine r_forget [(1, .string _), (2, .string _), (9, .int _ _), (10, .string _), (69, .bool _)] ⟨rfl, rfl, rfl, rfl, rfl, trivial⟩ (fun e26 => ?_)
            refine r_cond_t rfl ?_
            refine r_seq ?_
            refine r_region' ?_
            refine l_q (q_assign (v := .string _) rfl rfl) ?_
            refine l_q (q_assign (v := .string _) rfl rfl) ?_
            refine l_q (q_assign (v := .bool _) rfl rfl) ?_
            refine l_nil ?_
            refine r_forget [(6, .string _), (7, .string _), (8, .bool _)] ⟨rfl, rfl, rfl, trivial⟩ (fun e27 => ?_)
            refine r_ret_ (vs := [.string _, .string _, .bool _]) rfl Try.func63 rfl (.nil _) ⟨rfl, rfl, rfl, trivial⟩ ?_
            exact ⟨tup3 (vstr_eq (congrArg (fun p => p.1) (stepR_no htw hpf)).symm) (vstr_eq (congrArg (fun p => p.2.1) (stepR_no htw hpf)).symm) (vbool_eq (congrArg (fun p => p.2.2) (stepR_no htw hpf)).symm), Ext.of_below hB⟩
          · skip
            try simp only [decide_eq_true_eq, decide_eq_false_iff_not, Bool.not_eq_true', Bool.not_eq_false', Bool.not_not, Bool.not_true, Bool.not_false, Bool.not_eq_true, Bool.not_eq_false, Int.not_lt, Int.not_le, Bool.and_eq_true, Bool.or_eq_true, Bool.and_eq_false_iff, Bool.or_eq_false_iff] at hc25
            refine l_q (q_move (v := .string _) rfl rfl) ?_
            refine l_q (q_move (v := .string _) rfl rfl) ?_
            refine l_q (q_len_str rfl Try.underlying9 rfl rfl) ?_
            refine l_q (q_slice_str_hi Try.underlying9 rfl rfl (by omega) rfl) ?_
            refine l_q (q_move (v := .string _) rfl rfl) ?_
            refine l_q (q_neq_str rfl rfl rfl) ?_
            refine l_q (q_pick_f (v := .bool _) rfl rfl rfl) ?_
            refine l_nil ?_
            refine r_forget [(1, .string _), (2, .string _), (9, .int _ _), (10, .string _), (69, .bool _)] ⟨rfl, rfl, rfl, rfl, rfl, trivial⟩ (fun e28 => ?_)
            refine r_cond rfl (fun hc29 => ?_) (fun hc29 => ?_)
            · skip
              try simp only [decide_eq_true_eq, decide_eq_false_iff_not, Bool.not_eq_true', Bool.not_eq_false', Bool.not_not, Bool.not_true, Bool.not_false, Bool.not_eq_true, Bool.not_eq_false, Int.not_lt, Int.not_le, Bool.and_eq_true, Bool.or_eq_true, Bool.and_eq_false_iff, Bool.or_eq_false_iff] at hc29
              have hpf := pfx_no hc29
              refine r_seq ?_
              refine r_region' ?_
              refine l_q (q_assign (v := .string _) rfl rfl) ?_
              refine l_q (q_assign (v := .string _) rfl rfl) ?_
              refine l_q (q_assign (v := .bool _) rfl rfl) ?_
              refine l_nil ?_
              refine r_forget [(6, .string _), (7, .string _), (8, .bool _)] ⟨rfl, rfl, rfl, trivial⟩ (fun e30 => ?_)
              refine r_ret_ (vs := [.string _, .string _, .bool _]) rfl Try.func63 rfl (.nil _) ⟨rfl, rfl, rfl, trivial⟩ ?_
              exact ⟨tup3 (vstr_eq (congrArg (fun p => p.1) (stepR_no htw hpf)).symm) (vstr_eq (congrArg (fun p => p.2.1) (stepR_no htw hpf)).symm) (vbool_eq (congrArg (fun p => p.2.2) (stepR_no htw hpf)).symm), Ext.of_below hB⟩
            · skip
              try simp only [decide_eq_true_eq, decide_eq_false_iff_not, Bool.not_eq_true', Bool.not_eq_false', Bool.not_not, Bool.not_true, Bool.not_false, Bool.not_eq_true, Bool.not_eq_false, Int.not_lt, Int.not_le, Bool.and_eq_true, Bool.or_eq_true, Bool.and_eq_false_iff, Bool.or_eq_false_iff] at hc29
              have hpf := pfx_yes hc29
              refine r_skip ?_
              refine r_seq ?_
              refine r_draw ext_refl' ext_trans' [0, 1, 2, 3, 4, 5, 6, 7, 8, 9] [] 2 (by kernel_rfl) (by kernel_rfl) ?_
              intro w31 _ hE31
              replace hB := below_ext hB hE31 hsz
              replace hsz := Nat.le_trans hsz hE31.size
              refine m_q rfl rfl (fun w' hC' => q_move (v := .string _) rfl rfl) ?_
              refine m_q rfl rfl (fun w' hC' => q_move (v := .int _ _) rfl rfl) ?_
              refine m_q rfl rfl (fun w' hC' => q_slice_str_lo Try.underlying9 rfl rfl (by omega) rfl) ?_
              refine m_q rfl rfl (fun w' hC' => q_move (v := .string _) rfl rfl) ?_
              refine m_q rfl rfl (fun w' hC' => q_move (v := .string _) rfl rfl) ?_
              refine m_q rfl rfl (fun w' hC' => q_len_str rfl Try.underlying9 rfl rfl) ?_
              refine m_q rfl rfl (fun w' hC' => q_slice_str_lo Try.underlying9 rfl rfl (by omega) rfl) ?_
              refine m_q rfl rfl (fun w' hC' => q_assign (v := .string _) rfl rfl) ?_
              refine m_q rfl rfl (fun w' hC' => q_assign (v := .string _) rfl rfl) ?_
              refine m_q rfl rfl (fun w' hC' => q_assign (v := .bool _) rfl rfl) ?_
              refine m_nil ?_
              refine r_forget [(6, .string _), (7, .string _), (8, .bool _)] ⟨rfl, rfl, rfl, trivial⟩ (fun e32 => ?_)
              refine r_ret_ (vs := [.string _, .string _, .bool _]) rfl Try.func63 rfl (.nil _) ⟨rfl, rfl, rfl, trivial⟩ ?_
              exact ⟨tup3 (vstr_eq (congrArg (fun p => p.1) (stepR_yes htw hpf)).symm) (vstr_eq (congrArg (fun p => p.2.1) (stepR_yes htw hpf)).symm) (vbool_eq (congrArg (fun p => p.2.2) (stepR_yes htw hpf)).symm), Ext.of_below hB⟩
    · skip
      try simp only [decide_eq_true_eq, decide_eq_false_iff_not, Bool.not_eq_true', Bool.not_eq_false', Bool.not_not, Bool.not_true, Bool.not_false, Bool.not_eq_true, Bool.not_eq_false, Int.not_lt, Int.not_le, Bool.and_eq_true, Bool.or_eq_true, Bool.and_eq_false_iff, Bool.or_eq_false_iff] at hc18
      refine r_seq ?_
      refine r_region' ?_
      refine l_q (q_eql rfl rfl rfl) ?_
      refine l_q (q_assign (v := .bool _) rfl rfl) ?_
      refine l_nil ?_
      refine r_forget [(1, .string _), (2, .string _), (9, .int _ _), (10, .string _), (11, .int _ _), (27, .bool _)] ⟨rfl, rfl, rfl, rfl, rfl, rfl, trivial⟩ (fun e33 => ?_)
      refine r_cond rfl (fun hc34 => ?_) (fun hc34 => ?_)
      · skip
        try simp only [decide_eq_true_eq, decide_eq_false_iff_not, Bool.not_eq_true', Bool.not_eq_false', Bool.not_not, Bool.not_true, Bool.not_false, Bool.not_eq_true, Bool.not_eq_false, Int.not_lt, Int.not_le, Bool.and_eq_true, Bool.or_eq_true, Bool.and_eq_false_iff, Bool.or_eq_false_iff] at hc34
        refine r_seq ?_
        refine r_seq ?_
        refine r_region' ?_
        refine l_q (q_move (v := .string _) rfl rfl) ?_
        refine l_q (q_eql_str rfl rfl rfl) ?_
        refine l_q (q_move (v := .bool _) rfl rfl) ?_
        refine l_part 31 rfl (fun hc35 => ?_) (fun hc35 => ?_)
        · skip
          try simp only [decide_eq_true_eq, decide_eq_false_iff_not, Bool.not_eq_true', Bool.not_eq_false', Bool.not_not, Bool.not_true, Bool.not_false, Bool.not_eq_true, Bool.not_eq_false, Int.not_lt, Int.not_le, Bool.and_eq_true, Bool.or_eq_true, Bool.and_eq_false_iff, Bool.or_eq_false_iff] at hc35
          refine l_q (q_skip rfl) ?_
          refine l_q (q_skip rfl) ?_
          refine l_q (q_skip rfl) ?_
          refine l_q (q_pick_t (v := .bool _) rfl rfl rfl) ?_
          refine l_nil ?_
          refine r_forget [(1, .string _), (2, .string _), (9, .int _ _), (35, .bool _)] ⟨rfl, rfl, rfl, rfl, trivial⟩ (fun e36 => ?_)
          refine r_cond_t rfl ?_
          refine r_seq ?_
          refine r_region' ?_
          refine l_q (q_assign (v := .string _) rfl rfl) ?_
          refine l_q (q_assign (v := .string _) rfl rfl) ?_
          refine l_q (q_assign (v := .bool _) rfl rfl) ?_
          refine l_nil ?_
          refine r_forget [(6, .string _), (7, .string _), (8, .bool _)] ⟨rfl, rfl, rfl, trivial⟩ (fun e37 => ?_)
          refine r_ret_ (vs := [.string _, .string _, .bool _]) rfl Try.func63 rfl (.nil _) ⟨rfl, rfl, rfl, trivial⟩ ?_
          have htw : stepTW kind sent = none := by unfold stepTW; simp_all <;> (first | omega | (intro h; omega))
          exact ⟨tup3 (vstr_eq (congrArg (fun p => p.1) (stepR_none htw)).symm) (vstr_eq (congrArg (fun p => p.2.1) (stepR_none htw)).symm) (vbool_eq (congrArg (fun p => p.2.2) (stepR_none htw)).symm), Ext.of_below hB⟩
        · skip
          try simp only [decide_eq_true_eq, decide_eq_false_iff_not, Bool.not_eq_true', Bool.not_eq_false', Bool.not_not, Bool.not_true, Bool.not_false, Bool.not_eq_true, Bool.not_eq_false, Int.not_lt, Int.not_le, Bool.and_eq_true, Bool.or_eq_true, Bool.and_eq_false_iff, Bool.or_eq_false_iff] at hc35
          have hsl : 1 ≤ sent.length := List.length_pos_iff.2 hc35
          refine l_q (q_move (v := .string _) rfl rfl) ?_
          refine l_q (q_index_str (c := (sent).getD 0 0) Try.underlying9 rfl rfl (by omega) (getD_some (by omega)) rfl) ?_
          refine l_q (q_neq rfl rfl rfl) ?_
          refine l_q (q_pick_f (v := .bool _) rfl rfl rfl) ?_
          refine l_nil ?_
          refine r_forget [(1, .string _), (2, .string _), (9, .int _ _), (35, .bool _)] ⟨rfl, rfl, rfl, rfl, trivial⟩ (fun e38 => ?_)
          refine r_cond rfl (fun hc39 => ?_) (fun hc39 => ?_)
          · skip
            try simp only [decide_eq_true_eq, decide_eq_false_iff_not, Bool.not_eq_true', Bool.not_eq_false', Bool.not_not, Bool.not_true, Bool.not_false, Bool.not_eq_true, Bool.not_eq_false, Int.not_lt, Int.not_le, Bool.and_eq_true, Bool.or_eq_true, Bool.and_eq_false_iff, Bool.or_eq_false_iff] at hc39
            have hb := u8_ne (n := 45) hc39
            refine r_seq ?_
            refine r_region' ?_
            refine l_q (q_assign (v := .string _) rfl rfl) ?_
            refine l_q (q_assign (v := .string _) rfl rfl) ?_
            refine l_q (q_assign (v := .bool _) rfl rfl) ?_
            refine l_nil ?_
            refine r_forget [(6, .string _), (7, .string _), (8, .bool _)] ⟨rfl, rfl, rfl, trivial⟩ (fun e40 => ?_)
            refine r_ret_ (vs := [.string _, .string _, .bool _]) rfl Try.func63 rfl (.nil _) ⟨rfl, rfl, rfl, trivial⟩ ?_
            have htw : stepTW kind sent = none := by unfold stepTW; simp_all <;> (first | omega | (intro h; omega))
            exact ⟨tup3 (vstr_eq (congrArg (fun p => p.1) (stepR_none htw)).symm) (vstr_eq (congrArg (fun p => p.2.1) (stepR_none htw)).symm) (vbool_eq (congrArg (fun p => p.2.2) (stepR_none htw)).symm), Ext.of_below hB⟩
          · skip
            try simp only [decide_eq_true_eq, decide_eq_false_iff_not, Bool.not_eq_true', Bool.not_eq_false', Bool.not_not, Bool.not_true, Bool.not_false, Bool.not_eq_true, Bool.not_eq_false, Int.not_lt, Int.not_le, Bool.and_eq_true, Bool.or_eq_true, Bool.and_eq_false_iff, Bool.or_eq_false_iff] at hc39
            have hb := u8_eq (n := 45) hc39
            refine r_skip ?_
            refine r_region' ?_
            refine l_q (q_assign (v := .string _) rfl rfl) ?_
            refine l_nil ?_
            refine r_forget [(1, .string _), (2, .string _), (9, .int _ _), (10, .string _)] ⟨rfl, rfl, rfl, rfl, trivial⟩ (fun e41 => ?_)
            refine r_inBlock ?_
            refine r_seq ?_
            refine r_seq ?_
            have htw : stepTW kind sent = some (1, [46, 46]) := by unfold stepTW; simp_all <;> omega
            refine r_region' ?_
            refine l_q (q_move (v := .string _) rfl rfl) ?_
            refine l_q (q_len_str rfl Try.underlying9 rfl rfl) ?_
            refine l_q (q_move (v := .string _) rfl rfl) ?_
            refine l_q (q_len_str rfl Try.underlying9 rfl rfl) ?_
            refine l_q (q_lss rfl rfl rfl) ?_
            refine l_q (q_move (v := .bool _) rfl rfl) ?_
            refine l_part 62 rfl (fun hc42 => ?_) (fun hc42 => ?_)
            · skip
              try simp only [decide_eq_true_eq, decide_eq_false_iff_not, Bool.not_eq_true', Bool.not_eq_false', Bool.not_not, Bool.not_true, Bool.not_false, Bool.not_eq_true, Bool.not_eq_false, Int.not_lt, Int.not_le, Bool.and_eq_true, Bool.or_eq_true, Bool.and_eq_false_iff, Bool.or_eq_false_iff] at hc42
              have hpf := pfx_short hc42
              refine l_q (q_skip rfl) ?_
              refine l_q (q_skip rfl) ?_
              refine l_q (q_skip rfl) ?_
              refine l_q (q_skip rfl) ?_
              refine l_q (q_skip rfl) ?_
              refine l_q (q_skip rfl) ?_
              refine l_q (q_pick_t (v := .bool _) rfl rfl rfl) ?_
              refine l_nil ?_
              refine r_forget [(1, .string _), (2, .string _), (9, .int _ _), (10, .string _), (69, .bool _)] ⟨rfl, rfl, rfl, rfl, rfl, trivial⟩ (fun e43 => ?_)
              refine r_cond_t rfl ?_
              refine r_seq ?_
              refine r_region' ?_
              refine l_q (q_assign (v := .string _) rfl rfl) ?_
              refine l_q (q_assign (v := .string _) rfl rfl) ?_
              refine l_q (q_assign (v := .bool _) rfl rfl) ?_
              refine l_nil ?_
              refine r_forget [(6, .string _), (7, .string _), (8, .bool _)] ⟨rfl, rfl, rfl, trivial⟩ (fun e44 => ?_)
              refine r_ret_ (vs := [.string _, .string _, .bool _]) rfl Try.func63 rfl (.nil _) ⟨rfl, rfl, rfl, trivial⟩ ?_
              exact ⟨tup3 (vstr_eq (congrArg (fun p => p.1) (stepR_no htw hpf)).symm) (vstr_eq (congrArg (fun p => p.2.1) (stepR_no htw hpf)).symm) (vbool_eq (congrArg (fun p => p.2.2) (stepR_no htw hpf)).symm), Ext.of_below hB⟩
            · skip
              try simp only [decide_eq_true_eq, decide_eq_false_iff_not, Bool.not_eq_true', Bool.not_eq_false', Bool.not_not, Bool.not_true, Bool.not_false, Bool.not_eq_true, Bool.not_eq_false, Int.not_lt, Int.not_le, Bool.and_eq_true, Bool.or_eq_true, Bool.and_eq_false_iff, Bool.or_eq_false_iff] at hc42
              refine l_q (q_move (v := .string _) rfl rfl) ?_
              refine l_q (q_move (v := .string _) rfl rfl) ?_
              refine l_q (q_len_str rfl Try.underlying9 rfl rfl) ?_
              refine l_q (q_slice_str_hi Try.underlying9 rfl rfl (by omega) rfl) ?_
              refine l_q (q_move (v := .string _) rfl rfl) ?_
              refine l_q (q_neq_str rfl rfl rfl) ?_
              refine l_q (q_pick_f (v := .bool _) rfl rfl rfl) ?_
              refine l_nil ?_
              refine r_forget [(1, .string _), (2, .string _), (9, .int _ _), (10, .string _), (69, .bool _)] ⟨rfl, rfl, rfl, rfl, rfl, trivial⟩ (fun e45 => ?_)
              refine r_cond rfl (fun hc46 => ?_) (fun hc46 => ?_)
              · skip
                try simp only [decide_eq_true_eq, decide_eq_false_iff_not, Bool.not_eq_true', Bool.not_eq_false', Bool.not_not, Bool.not_true, Bool.not_false, Bool.not_eq_true, Bool.not_eq_false, Int.not_lt, Int.not_le, Bool.and_eq_true, Bool.or_eq_true, Bool.and_eq_false_iff, Bool.or_eq_false_iff] at hc46
                have hpf := pfx_no hc46
                refine r_seq ?_
                refine r_region' ?_
                refine l_q (q_assign (v := .string _) rfl rfl) ?_
                refine l_q (q_assign (v := .string _) rfl rfl) ?_
                refine l_q (q_assign (v := .bool _) rfl rfl) ?_
                refine l_nil ?_
                refine r_forget [(6, .string _), (7, .string _), (8, .bool _)] ⟨rfl, rfl, rfl, trivial⟩ (fun e47 => ?_)
                refine r_ret_ (vs := [.string _, .string _, .bool _]) rfl Try.func63 rfl (.nil _) ⟨rfl, rfl, rfl, trivial⟩ ?_
                exact ⟨tup3 (vstr_eq (congrArg (fun p => p.1) (stepR_no htw hpf)).symm) (vstr_eq (congrArg (fun p => p.2.1) (stepR_no htw hpf)).symm) (vbool_eq (congrArg (fun p => p.2.2) (stepR_no htw hpf)).symm), Ext.of_below hB⟩
              · skip
                try simp only [decide_eq_true_eq, decide_eq_false_iff_not, Bool.not_eq_true', Bool.not_eq_false', Bool.not_not, Bool.not_true, Bool.not_false, Bool.not_eq_true, Bool.not_eq_false, Int.not_lt, Int.not_le, Bool.and_eq_true, Bool.or_eq_true, Bool.and_eq_false_iff, Bool.or_eq_false_iff] at hc46
                have hpf := pfx_yes hc46
                refine r_skip ?_
                refine r_seq ?_
                refine r_draw ext_refl' ext_trans' [0, 1, 2, 3, 4, 5, 6, 7, 8, 9] [] 2 (by kernel_rfl) (by kernel_rfl) ?_
                intro w48 _ hE48
                replace hB := below_ext hB hE48 hsz
                replace hsz := Nat.le_trans hsz hE48.size
                refine m_q rfl rfl (fun w' hC' => q_move (v := .string _) rfl rfl) ?_
                refine m_q rfl rfl (fun w' hC' => q_move (v := .int _ _) rfl rfl) ?_
                refine m_q rfl rfl (fun w' hC' => q_slice_str_lo Try.underlying9 rfl rfl (by omega) rfl) ?_
                refine m_q rfl rfl (fun w' hC' => q_move (v := .string _) rfl rfl) ?_
                refine m_q rfl rfl (fun w' hC' => q_move (v := .string _) rfl rfl) ?_
                refine m_q rfl rfl (fun w' hC' => q_len_str rfl Try.underlying9 rfl rfl) ?_
                refine m_q rfl rfl (fun w' hC' => q_slice_str_lo Try.underlying9 rfl rfl (by omega) rfl) ?_
                refine m_q rfl rfl (fun w' hC' => q_assign (v := .string _) rfl rfl) ?_
                refine m_q rfl rfl (fun w' hC' => q_assign (v := .string _) rfl rfl) ?_
                refine m_q rfl rfl (fun w' hC' => q_assign (v := .bool _) rfl rfl) ?_
                refine m_nil ?_
                refine r_forget [(6, .string _), (7, .string _), (8, .bool _)] ⟨rfl, rfl, rfl, trivial⟩ (fun e49 => ?_)
                refine r_ret_ (vs := [.string _, .string _, .bool _]) rfl Try.func63 rfl (.nil _) ⟨rfl, rfl, rfl, trivial⟩ ?_
                exact ⟨tup3 (vstr_eq (congrArg (fun p => p.1) (stepR_yes htw hpf)).symm) (vstr_eq (congrArg (fun p => p.2.1) (stepR_yes htw hpf)).symm) (vbool_eq (congrArg (fun p => p.2.2) (stepR_yes htw hpf)).symm), Ext.of_below hB⟩
      · skip
        try simp only [decide_eq_true_eq, decide_eq_false_iff_not, Bool.not_eq_true', Bool.not_eq_false', Bool.not_not, Bool.not_true, Bool.not_false, Bool.not_eq_true, Bool.not_eq_false, Int.not_lt, Int.not_le, Bool.and_eq_true, Bool.or_eq_true, Bool.and_eq_false_iff, Bool.or_eq_false_iff] at hc34
        refine r_seq ?_
        refine r_region' ?_
        refine l_q (q_eql rfl rfl rfl) ?_
        refine l_q (q_assign (v := .bool _) rfl rfl) ?_
        refine l_nil ?_
        refine r_forget [(1, .string _), (2, .string _), (9, .int _ _), (10, .string _), (11, .int _ _), (36, .bool _)] ⟨rfl, rfl, rfl, rfl, rfl, rfl, trivial⟩ (fun e50 => ?_)
        refine r_cond rfl (fun hc51 => ?_) (fun hc51 => ?_)
        · skip
          try simp only [decide_eq_true_eq, decide_eq_false_iff_not, Bool.not_eq_true', Bool.not_eq_false', Bool.not_not, Bool.not_true, Bool.not_false, Bool.not_eq_true, Bool.not_eq_false, Int.not_lt, Int.not_le, Bool.and_eq_true, Bool.or_eq_true, Bool.and_eq_false_iff, Bool.or_eq_false_iff] at hc51
          refine r_seq ?_
          refine r_seq ?_
          refine r_region' ?_
          refine l_q (q_move (v := .string _) rfl rfl) ?_
          refine l_q (q_len_str rfl Try.underlying9 rfl rfl) ?_
          refine l_q (q_lss rfl rfl rfl) ?_
          refine l_q (q_move (v := .bool _) rfl rfl) ?_
          refine l_part 41 rfl (fun hc52 => ?_) (fun hc52 => ?_)
          · skip
            try simp only [decide_eq_true_eq, decide_eq_false_iff_not, Bool.not_eq_true', Bool.not_eq_false', Bool.not_not, Bool.not_true, Bool.not_false, Bool.not_eq_true, Bool.not_eq_false, Int.not_lt, Int.not_le, Bool.and_eq_true, Bool.or_eq_true, Bool.and_eq_false_iff, Bool.or_eq_false_iff] at hc52
            refine l_q (q_skip rfl) ?_
            refine l_q (q_skip rfl) ?_
            refine l_q (q_skip rfl) ?_
            refine l_q (q_pick_t (v := .bool _) rfl rfl rfl) ?_
            refine l_nil ?_
            refine r_forget [(1, .string _), (2, .string _), (45, .bool _)] ⟨rfl, rfl, rfl, trivial⟩ (fun e53 => ?_)
            refine r_cond_t rfl ?_
            refine r_seq ?_
            refine r_region' ?_
            refine l_q (q_assign (v := .string _) rfl rfl) ?_
            refine l_q (q_assign (v := .string _) rfl rfl) ?_
            refine l_q (q_assign (v := .bool _) rfl rfl) ?_
            refine l_nil ?_
            refine r_forget [(6, .string _), (7, .string _), (8, .bool _)] ⟨rfl, rfl, rfl, trivial⟩ (fun e54 => ?_)
            refine r_ret_ (vs := [.string _, .string _, .bool _]) rfl Try.func63 rfl (.nil _) ⟨rfl, rfl, rfl, trivial⟩ ?_
            have htw : stepTW kind sent = none := by unfold stepTW; simp_all <;> (first | omega | (intro h; omega))
            exact ⟨tup3 (vstr_eq (congrArg (fun p => p.1) (stepR_none htw)).symm) (vstr_eq (congrArg (fun p => p.2.1) (stepR_none htw)).symm) (vbool_eq (congrArg (fun p => p.2.2) (stepR_none htw)).symm), Ext.of_below hB⟩
          · skip
            try simp only [decide_eq_true_eq, decide_eq_false_iff_not, Bool.not_eq_true', Bool.not_eq_false', Bool.not_not, Bool.not_true, Bool.not_false, Bool.not_eq_true, Bool.not_eq_false, Int.not_lt, Int.not_le, Bool.and_eq_true, Bool.or_eq_true, Bool.and_eq_false_iff, Bool.or_eq_false_iff] at hc52
            refine l_q (q_move (v := .string _) rfl rfl) ?_
            refine l_q (q_slice_str_hi Try.underlying9 rfl rfl (by omega) rfl) ?_
            refine l_q (q_neq_str rfl rfl rfl) ?_
            refine l_q (q_pick_f (v := .bool _) rfl rfl rfl) ?_
            refine l_nil ?_
            refine r_forget [(1, .string _), (2, .string _), (45, .bool _)] ⟨rfl, rfl, rfl, trivial⟩ (fun e55 => ?_)
            refine r_cond rfl (fun hc56 => ?_) (fun hc56 => ?_)
            · skip
              try simp only [decide_eq_true_eq, decide_eq_false_iff_not, Bool.not_eq_true', Bool.not_eq_false', Bool.not_not, Bool.not_true, Bool.not_false, Bool.not_eq_true, Bool.not_eq_false, Int.not_lt, Int.not_le, Bool.and_eq_true, Bool.or_eq_true, Bool.and_eq_false_iff, Bool.or_eq_false_iff] at hc56
              refine r_seq ?_
              refine r_region' ?_
              refine l_q (q_assign (v := .string _) rfl rfl) ?_
              refine l_q (q_assign (v := .string _) rfl rfl) ?_
              refine l_q (q_assign (v := .bool _) rfl rfl) ?_
              refine l_nil ?_
              refine r_forget [(6, .string _), (7, .string _), (8, .bool _)] ⟨rfl, rfl, rfl, trivial⟩ (fun e57 => ?_)
              refine r_ret_ (vs := [.string _, .string _, .bool _]) rfl Try.func63 rfl (.nil _) ⟨rfl, rfl, rfl, trivial⟩ ?_
              have htw : stepTW kind sent = none := by unfold stepTW; simp_all <;> (first | omega | (intro h; omega))
              exact ⟨tup3 (vstr_eq (congrArg (fun p => p.1) (stepR_none htw)).symm) (vstr_eq (congrArg (fun p => p.2.1) (stepR_none htw)).symm) (vbool_eq (congrArg (fun p => p.2.2) (stepR_none htw)).symm), Ext.of_below hB⟩
            · skip
              try simp only [decide_eq_true_eq, decide_eq_false_iff_not, Bool.not_eq_true', Bool.not_eq_false', Bool.not_not, Bool.not_true, Bool.not_false, Bool.not_eq_true, Bool.not_eq_false, Int.not_lt, Int.not_le, Bool.and_eq_true, Bool.or_eq_true, Bool.and_eq_false_iff, Bool.or_eq_false_iff] at hc56
              refine r_skip ?_
              refine r_region' ?_
              refine l_q (q_assign (v := .int _ _) rfl rfl) ?_
              refine l_q (q_assign (v := .string _) rfl rfl) ?_
              refine l_nil ?_
              refine r_forget [(1, .string _), (2, .string _), (9, .int _ _), (10, .string _)] ⟨rfl, rfl, rfl, rfl, trivial⟩ (fun e58 => ?_)
              refine r_inBlock ?_
              refine r_seq ?_
              refine r_seq ?_
              have htw : stepTW kind sent = some (2, [45]) := by unfold stepTW; simp_all <;> omega
              refine r_region' ?_
              refine l_q (q_move (v := .string _) rfl rfl) ?_
              refine l_q (q_len_str rfl Try.underlying9 rfl rfl) ?_
              refine l_q (q_move (v := .string _) rfl rfl) ?_
              refine l_q (q_len_str rfl Try.underlying9 rfl rfl) ?_
              refine l_q (q_lss rfl rfl rfl) ?_
              refine l_q (q_move (v := .bool _) rfl rfl) ?_
              refine l_part 62 rfl (fun hc59 => ?_) (fun hc59 => ?_)
              · skip
                try simp only [decide_eq_true_eq, decide_eq_false_iff_not, Bool.not_eq_true', Bool.not_eq_false', Bool.not_not, Bool.not_true, Bool.not_false, Bool.not_eq_true, Bool.not_eq_false, Int.not_lt, Int.not_le, Bool.and_eq_true, Bool.or_eq_true, Bool.and_eq_false_iff, Bool.or_eq_false_iff] at hc59
                have hpf := pfx_short hc59
                refine l_q (q_skip rfl) ?_
                refine l_q (q_skip rfl) ?_
                refine l_q (q_skip rfl) ?_
                refine l_q (q_skip rfl) ?_
                refine l_q (q_skip rfl) ?_
                refine l_q (q_skip rfl) ?_
                refine l_q (q_pick_t (v := .bool _) rfl rfl rfl) ?_
                refine l_nil ?_
                refine r_forget [(1, .string _), (2, .string _), (9, .int _ _), (10, .string _), (69, .bool _)] ⟨rfl, rfl, rfl, rfl, rfl, trivial⟩ (fun e60 => ?_)
                refine r_cond_t rfl ?_
                refine r_seq ?_
                refine r_region' ?_
                refine l_q (q_assign (v := .string _) rfl rfl) ?_
                refine l_q (q_assign (v := .string _) rfl rfl) ?_
                refine l_q (q_assign (v := .bool _) rfl rfl) ?_
                refine l_nil ?_
                refine r_forget [(6, .string _), (7, .string _), (8, .bool _)] ⟨rfl, rfl, rfl, trivial⟩ (fun e61 => ?_)
                refine r_ret_ (vs := [.string _, .string _, .bool _]) rfl Try.func63 rfl (.nil _) ⟨rfl, rfl, rfl, trivial⟩ ?_
                exact ⟨tup3 (vstr_eq (congrArg (fun p => p.1) (stepR_no htw hpf)).symm) (vstr_eq (congrArg (fun p => p.2.1) (stepR_no htw hpf)).symm) (vbool_eq (congrArg (fun p => p.2.2) (stepR_no htw hpf)).symm), Ext.of_below hB⟩
              · skip
                try simp only [decide_eq_true_eq, decide_eq_false_iff_not, Bool.not_eq_true', Bool.not_eq_false', Bool.not_not, Bool.not_true, Bool.not_false, Bool.not_eq_true, Bool.not_eq_false, Int.not_lt, Int.not_le, Bool.and_eq_true, Bool.or_eq_true, Bool.and_eq_false_iff, Bool.or_eq_false_iff] at hc59
                refine l_q (q_move (v := .string _) rfl rfl) ?_
                refine l_q (q_move (v := .string _) rfl rfl) ?_
                refine l_q (q_len_str rfl Try.underlying9 rfl rfl) ?_
                refine l_q (q_slice_str_hi Try.underlying9 rfl rfl (by omega) rfl) ?_
                refine l_q (q_move (v := .string _) rfl rfl) ?_
                refine l_q (q_neq_str rfl rfl rfl) ?_
                refine l_q (q_pick_f (v := .bool _) rfl rfl rfl) ?_
                refine l_nil ?_
                refine r_forget [(1, .string _), (2, .string _), (9, .int _ _), (10, .string _), (69, .bool _)] ⟨rfl, rfl, rfl, rfl, rfl, trivial⟩ (fun e62 => ?_)
                refine r_cond rfl (fun hc63 => ?_) (fun hc63 => ?_)
                · skip
                  try simp only [decide_eq_true_eq, decide_eq_false_iff_not, Bool.not_eq_true', Bool.not_eq_false', Bool.not_not, Bool.not_true, Bool.not_false, Bool.not_eq_true, Bool.not_eq_false, Int.not_lt, Int.not_le, Bool.and_eq_true, Bool.or_eq_true, Bool.and_eq_false_iff, Bool.or_eq_false_iff] at hc63
                  have hpf := pfx_no hc63
                  refine r_seq ?_
                  refine r_region' ?_
                  refine l_q (q_assign (v := .string _) rfl rfl) ?_
                  refine l_q (q_assign (v := .string _) rfl rfl) ?_
                  refine l_q (q_assign (v := .bool _) rfl rfl) ?_
                  refine l_nil ?_
                  refine r_forget [(6, .string _), (7, .string _), (8, .bool _)] ⟨rfl, rfl, rfl, trivial⟩ (fun e64 => ?_)
                  refine r_ret_ (vs := [.string _, .string _, .bool _]) rfl Try.func63 rfl (.nil _) ⟨rfl, rfl, rfl, trivial⟩ ?_
                  exact ⟨tup3 (vstr_eq (congrArg (fun p => p.1) (stepR_no htw hpf)).symm) (vstr_eq (congrArg (fun p => p.2.1) (stepR_no htw hpf)).symm) (vbool_eq (congrArg (fun p => p.2.2) (stepR_no htw hpf)).symm), Ext.of_below hB⟩
                · skip
                  try simp only [decide_eq_true_eq, decide_eq_false_iff_not, Bool.not_eq_true', Bool.not_eq_false', Bool.not_not, Bool.not_true, Bool.not_false, Bool.not_eq_true, Bool.not_eq_false, Int.not_lt, Int.not_le, Bool.and_eq_true, Bool.or_eq_true, Bool.and_eq_false_iff, Bool.or_eq_false_iff] at hc63
                  have hpf := pfx_yes hc63
                  refine r_skip ?_
                  refine r_seq ?_
                  refine r_draw ext_refl' ext_trans' [0, 1, 2, 3, 4, 5, 6, 7, 8, 9] [] 2 (by kernel_rfl) (by kernel_rfl) ?_
                  intro w65 _ hE65
                  replace hB := below_ext hB hE65 hsz
                  replace hsz := Nat.le_trans hsz hE65.size
                  refine m_q rfl rfl (fun w' hC' => q_move (v := .string _) rfl rfl) ?_
                  refine m_q rfl rfl (fun w' hC' => q_move (v := .int _ _) rfl rfl) ?_
                  refine m_q rfl rfl (fun w' hC' => q_slice_str_lo Try.underlying9 rfl rfl (by omega) rfl) ?_
                  refine m_q rfl rfl (fun w' hC' => q_move (v := .string _) rfl rfl) ?_
                  refine m_q rfl rfl (fun w' hC' => q_move (v := .string _) rfl rfl) ?_
                  refine m_q rfl rfl (fun w' hC' => q_len_str rfl Try.underlying9 rfl rfl) ?_
                  refine m_q rfl rfl (fun w' hC' => q_slice_str_lo Try.underlying9 rfl rfl (by omega) rfl) ?_
                  refine m_q rfl rfl (fun w' hC' => q_assign (v := .string _) rfl rfl) ?_
                  refine m_q rfl rfl (fun w' hC' => q_assign (v := .string _) rfl rfl) ?_
                  refine m_q rfl rfl (fun w' hC' => q_assign (v := .bool _) rfl rfl) ?_
                  refine m_nil ?_
                  refine r_forget [(6, .string _), (7, .string _), (8, .bool _)] ⟨rfl, rfl, rfl, trivial⟩ (fun e66 => ?_)
                  refine r_ret_ (vs := [.string _, .string _, .bool _]) rfl Try.func63 rfl (.nil _) ⟨rfl, rfl, rfl, trivial⟩ ?_
                  exact ⟨tup3 (vstr_eq (congrArg (fun p => p.1) (stepR_yes htw hpf)).symm) (vstr_eq (congrArg (fun p => p.2.1) (stepR_yes htw hpf)).symm) (vbool_eq (congrArg (fun p => p.2.2) (stepR_yes htw hpf)).symm), Ext.of_below hB⟩
        · skip
          try simp only [decide_eq_true_eq, decide_eq_false_iff_not, Bool.not_eq_true', Bool.not_eq_false', Bool.not_not, Bool.not_true, Bool.not_false, Bool.not_eq_true, Bool.not_eq_false, Int.not_lt, Int.not_le, Bool.and_eq_true, Bool.or_eq_true, Bool.and_eq_false_iff, Bool.or_eq_false_iff] at hc51
          refine r_seq ?_
          refine r_region' ?_
          refine l_q (q_eql rfl rfl rfl) ?_
          refine l_q (q_assign (v := .bool _) rfl rfl) ?_
          refine l_nil ?_
          refine r_forget [(1, .string _), (2, .string _), (9, .int _ _), (10, .string _), (11, .int _ _), (46, .bool _)] ⟨rfl, rfl, rfl, rfl, rfl, rfl, trivial⟩ (fun e67 => ?_)
          refine r_cond rfl (fun hc68 => ?_) (fun hc68 => ?_)
          · skip
            try simp only [decide_eq_true_eq, decide_eq_false_iff_not, Bool.not_eq_true', Bool.not_eq_false', Bool.not_not, Bool.not_true, Bool.not_false, Bool.not_eq_true, Bool.not_eq_false, Int.not_lt, Int.not_le, Bool.and_eq_true, Bool.or_eq_true, Bool.and_eq_false_iff, Bool.or_eq_false_iff] at hc68
            refine r_seq ?_
            refine r_region' ?_
            refine l_q (q_move (v := .string _) rfl rfl) ?_
            refine l_q (q_eql_str rfl rfl rfl) ?_
            refine l_q (q_move (v := .bool _) rfl rfl) ?_
            refine l_part 50 rfl (fun hc69 => ?_) (fun hc69 => ?_)
            · skip
              try simp only [decide_eq_true_eq, decide_eq_false_iff_not, Bool.not_eq_true', Bool.not_eq_false', Bool.not_not, Bool.not_true, Bool.not_false, Bool.not_eq_true, Bool.not_eq_false, Int.not_lt, Int.not_le, Bool.and_eq_true, Bool.or_eq_true, Bool.and_eq_false_iff, Bool.or_eq_false_iff] at hc69
              refine l_q (q_skip rfl) ?_
              refine l_q (q_skip rfl) ?_
              refine l_q (q_skip rfl) ?_
              refine l_q (q_pick_t (v := .bool _) rfl rfl rfl) ?_
              refine l_nil ?_
              refine r_forget [(1, .string _), (2, .string _), (9, .int _ _), (10, .string _), (54, .bool _)] ⟨rfl, rfl, rfl, rfl, rfl, trivial⟩ (fun e70 => ?_)
              refine r_cond_t rfl ?_
              refine r_seq ?_
              refine r_region' ?_
              refine l_q (q_assign (v := .string _) rfl rfl) ?_
              refine l_q (q_assign (v := .string _) rfl rfl) ?_
              refine l_q (q_assign (v := .bool _) rfl rfl) ?_
              refine l_nil ?_
              refine r_forget [(6, .string _), (7, .string _), (8, .bool _)] ⟨rfl, rfl, rfl, trivial⟩ (fun e71 => ?_)
              refine r_ret_ (vs := [.string _, .string _, .bool _]) rfl Try.func63 rfl (.nil _) ⟨rfl, rfl, rfl, trivial⟩ ?_
              have htw : stepTW kind sent = none := by unfold stepTW; simp_all <;> (first | omega | (intro h; omega))
              exact ⟨tup3 (vstr_eq (congrArg (fun p => p.1) (stepR_none htw)).symm) (vstr_eq (congrArg (fun p => p.2.1) (stepR_none htw)).symm) (vbool_eq (congrArg (fun p => p.2.2) (stepR_none htw)).symm), Ext.of_below hB⟩
            · skip
              try simp only [decide_eq_true_eq, decide_eq_false_iff_not, Bool.not_eq_true', Bool.not_eq_false', Bool.not_not, Bool.not_true, Bool.not_false, Bool.not_eq_true, Bool.not_eq_false, Int.not_lt, Int.not_le, Bool.and_eq_true, Bool.or_eq_true, Bool.and_eq_false_iff, Bool.or_eq_false_iff] at hc69
              have hsl : 1 ≤ sent.length := List.length_pos_iff.2 hc69
              refine l_q (q_move (v := .string _) rfl rfl) ?_
              refine l_q (q_index_str (c := (sent).getD 0 0) Try.underlying9 rfl rfl (by omega) (getD_some (by omega)) rfl) ?_
              refine l_q (q_neq rfl rfl rfl) ?_
              refine l_q (q_pick_f (v := .bool _) rfl rfl rfl) ?_
              refine l_nil ?_
              refine r_forget [(1, .string _), (2, .string _), (9, .int _ _), (10, .string _), (54, .bool _)] ⟨rfl, rfl, rfl, rfl, rfl, trivial⟩ (fun e72 => ?_)
              refine r_cond rfl (fun hc73 => ?_) (fun hc73 => ?_)
              · skip
                try simp only [decide_eq_true_eq, decide_eq_false_iff_not, Bool.not_eq_true', Bool.not_eq_false', Bool.not_not, Bool.not_true, Bool.not_false, Bool.not_eq_true, Bool.not_eq_false, Int.not_lt, Int.not_le, Bool.and_eq_true, Bool.or_eq_true, Bool.and_eq_false_iff, Bool.or_eq_false_iff] at hc73
                have hb := u8_ne (n := 32) hc73
                refine r_seq ?_
                refine r_region' ?_
                refine l_q (q_assign (v := .string _) rfl rfl) ?_
                refine l_q (q_assign (v := .string _) rfl rfl) ?_
                refine l_q (q_assign (v := .bool _) rfl rfl) ?_
                refine l_nil ?_
                refine r_forget [(6, .string _), (7, .string _), (8, .bool _)] ⟨rfl, rfl, rfl, trivial⟩ (fun e74 => ?_)
                refine r_ret_ (vs := [.string _, .string _, .bool _]) rfl Try.func63 rfl (.nil _) ⟨rfl, rfl, rfl, trivial⟩ ?_
                have htw : stepTW kind sent = none := by unfold stepTW; simp_all <;> (first | omega | (intro h; omega))
                exact ⟨tup3 (vstr_eq (congrArg (fun p => p.1) (stepR_none htw)).symm) (vstr_eq (congrArg (fun p => p.2.1) (stepR_none htw)).symm) (vbool_eq (congrArg (fun p => p.2.2) (stepR_none htw)).symm), Ext.of_below hB⟩
              · skip
                try simp only [decide_eq_true_eq, decide_eq_false_iff_not, Bool.not_eq_true', Bool.not_eq_false', Bool.not_not, Bool.not_true, Bool.not_false, Bool.not_eq_true, Bool.not_eq_false, Int.not_lt, Int.not_le, Bool.and_eq_true, Bool.or_eq_true, Bool.and_eq_false_iff, Bool.or_eq_false_iff] at hc73
                have hb := u8_eq (n := 32) hc73
                refine r_skip ?_
                refine r_inBlock ?_
                refine r_seq ?_
                refine r_seq ?_
                have htw : stepTW kind sent = some (1, []) := by unfold stepTW; simp_all <;> omega
                refine r_region' ?_
                refine l_q (q_move (v := .string _) rfl rfl) ?_
                refine l_q (q_len_str rfl Try.underlying9 rfl rfl) ?_
                refine l_q (q_move (v := .string _) rfl rfl) ?_
                refine l_q (q_len_str rfl Try.underlying9 rfl rfl) ?_
                refine l_q (q_lss rfl rfl rfl) ?_
                refine l_q (q_move (v := .bool _) rfl rfl) ?_
                refine l_part 62 rfl (fun hc75 => ?_) (fun hc75 => ?_)
                · skip
                  try simp only [decide_eq_true_eq, decide_eq_false_iff_not, Bool.not_eq_true', Bool.not_eq_false', Bool.not_not, Bool.not_true, Bool.not_false, Bool.not_eq_true, Bool.not_eq_false, Int.not_lt, Int.not_le, Bool.and_eq_true, Bool.or_eq_true, Bool.and_eq_false_iff, Bool.or_eq_false_iff] at hc75
                  have hpf := pfx_short hc75
                  refine l_q (q_skip rfl) ?_
                  refine l_q (q_skip rfl) ?_
                  refine l_q (q_skip rfl) ?_
                  refine l_q (q_skip rfl) ?_
                  refine l_q (q_skip rfl) ?_
                  refine l_q (q_skip rfl) ?_
                  refine l_q (q_pick_t (v := .bool _) rfl rfl rfl) ?_
                  refine l_nil ?_
                  refine r_forget [(1, .string _), (2, .string _), (9, .int _ _), (10, .string _), (69, .bool _)] ⟨rfl, rfl, rfl, rfl, rfl, trivial⟩ (fun e76 => ?_)
                  refine r_cond_t rfl ?_
                  refine r_seq ?_
                  refine r_region' ?_
                  refine l_q (q_assign (v := .string _) rfl rfl) ?_
                  refine l_q (q_assign (v := .string _) rfl rfl) ?_
                  refine l_q (q_assign (v := .bool _) rfl rfl) ?_
                  refine l_nil ?_
                  refine r_forget [(6, .string _), (7, .string _), (8, .bool _)] ⟨rfl, rfl, rfl, trivial⟩ (fun e77 => ?_)
                  refine r_ret_ (vs := [.string _, .string _, .bool _]) rfl Try.func63 rfl (.nil _) ⟨rfl, rfl, rfl, trivial⟩ ?_
                  exact ⟨tup3 (vstr_eq (congrArg (fun p => p.1) (stepR_no htw hpf)).symm) (vstr_eq (congrArg (fun p => p.2.1) (stepR_no htw hpf)).symm) (vbool_eq (congrArg (fun p => p.2.2) (stepR_no htw hpf)).symm), Ext.of_below hB⟩
                · skip
                  try simp only [decide_eq_true_eq, decide_eq_false_iff_not, Bool.not_eq_true', Bool.not_eq_false', Bool.not_not, Bool.not_true, Bool.not_false, Bool.not_eq_true, Bool.not_eq_false, Int.not_lt, Int.not_le, Bool.and_eq_true, Bool.or_eq_true, Bool.and_eq_false_iff, Bool.or_eq_false_iff] at hc75
                  refine l_q (q_move (v := .string _) rfl rfl) ?_
                  refine l_q (q_move (v := .string _) rfl rfl) ?_
                  refine l_q (q_len_str rfl Try.underlying9 rfl rfl) ?_
                  refine l_q (q_slice_str_hi Try.underlying9 rfl rfl (by omega) rfl) ?_
                  refine l_q (q_move (v := .string _) rfl rfl) ?_
                  refine l_q (q_neq_str rfl rfl rfl) ?_
                  refine l_q (q_pick_f (v := .bool _) rfl rfl rfl) ?_
                  refine l_nil ?_
                  refine r_forget [(1, .string _), (2, .string _), (9, .int _ _), (10, .string _), (69, .bool _)] ⟨rfl, rfl, rfl, rfl, rfl, trivial⟩ (fun e78 => ?_)
                  refine r_cond rfl (fun hc79 => ?_) (fun hc79 => ?_)
                  · skip
                    try simp only [decide_eq_true_eq, decide_eq_false_iff_not, Bool.not_eq_true', Bool.not_eq_false', Bool.not_not, Bool.not_true, Bool.not_false, Bool.not_eq_true, Bool.not_eq_false, Int.not_lt, Int.not_le, Bool.and_eq_true, Bool.or_eq_true, Bool.and_eq_false_iff, Bool.or_eq_false_iff] at hc79
                    have hpf := pfx_no hc79
                    refine r_seq ?_
                    refine r_region' ?_
                    refine l_q (q_assign (v := .string _) rfl rfl) ?_
                    refine l_q (q_assign (v := .string _) rfl rfl) ?_
                    refine l_q (q_assign (v := .bool _) rfl rfl) ?_
                    refine l_nil ?_
                    refine r_forget [(6, .string _), (7, .string _), (8, .bool _)] ⟨rfl, rfl, rfl, trivial⟩ (fun e80 => ?_)
                    refine r_ret_ (vs := [.string _, .string _, .bool _]) rfl Try.func63 rfl (.nil _) ⟨rfl, rfl, rfl, trivial⟩ ?_
                    exact ⟨tup3 (vstr_eq (congrArg (fun p => p.1) (stepR_no htw hpf)).symm) (vstr_eq (congrArg (fun p => p.2.1) (stepR_no htw hpf)).symm) (vbool_eq (congrArg (fun p => p.2.2) (stepR_no htw hpf)).symm), Ext.of_below hB⟩
                  · skip
                    try simp only [decide_eq_true_eq, decide_eq_false_iff_not, Bool.not_eq_true', Bool.not_eq_false', Bool.not_not, Bool.not_true, Bool.not_false, Bool.not_eq_true, Bool.not_eq_false, Int.not_lt, Int.not_le, Bool.and_eq_true, Bool.or_eq_true, Bool.and_eq_false_iff, Bool.or_eq_false_iff] at hc79
                    have hpf := pfx_yes hc79
                    refine r_skip ?_
                    refine r_seq ?_
                    refine r_draw ext_refl' ext_trans' [0, 1, 2, 3, 4, 5, 6, 7, 8, 9] [] 2 (by kernel_rfl) (by kernel_rfl) ?_
                    intro w81 _ hE81
                    replace hB := below_ext hB hE81 hsz
                    replace hsz := Nat.le_trans hsz hE81.size
                    refine m_q rfl rfl (fun w' hC' => q_move (v := .string _) rfl rfl) ?_
                    refine m_q rfl rfl (fun w' hC' => q_move (v := .int _ _) rfl rfl) ?_
                    refine m_q rfl rfl (fun w' hC' => q_slice_str_lo Try.underlying9 rfl rfl (by omega) rfl) ?_
                    refine m_q rfl rfl (fun w' hC' => q_move (v := .string _) rfl rfl) ?_
                    refine m_q rfl rfl (fun w' hC' => q_move (v := .string _) rfl rfl) ?_
                    refine m_q rfl rfl (fun w' hC' => q_len_str rfl Try.underlying9 rfl rfl) ?_
                    refine m_q rfl rfl (fun w' hC' => q_slice_str_lo Try.underlying9 rfl rfl (by omega) rfl) ?_
                    refine m_q rfl rfl (fun w' hC' => q_assign (v := .string _) rfl rfl) ?_
                    refine m_q rfl rfl (fun w' hC' => q_assign (v := .string _) rfl rfl) ?_
                    refine m_q rfl rfl (fun w' hC' => q_assign (v := .bool _) rfl rfl) ?_
                    refine m_nil ?_
                    refine r_forget [(6, .string _), (7, .string _), (8, .bool _)] ⟨rfl, rfl, rfl, trivial⟩ (fun e82 => ?_)
                    refine r_ret_ (vs := [.string _, .string _, .bool _]) rfl Try.func63 rfl (.nil _) ⟨rfl, rfl, rfl, trivial⟩ ?_
                    exact ⟨tup3 (vstr_eq (congrArg (fun p => p.1) (stepR_yes htw hpf)).symm) (vstr_eq (congrArg (fun p => p.2.1) (stepR_yes htw hpf)).symm) (vbool_eq (congrArg (fun p => p.2.2) (stepR_yes htw hpf)).symm), Ext.of_below hB⟩
          · skip
            try simp only [decide_eq_true_eq, decide_eq_false_iff_not, Bool.not_eq_true', Bool.not_eq_false', Bool.not_not, Bool.not_true, Bool.not_false, Bool.not_eq_true, Bool.not_eq_false, Int.not_lt, Int.not_le, Bool.and_eq_true, Bool.or_eq_true, Bool.and_eq_false_iff, Bool.or_eq_false_iff] at hc68
            refine r_seq ?_
            refine r_region' ?_
            refine l_q (q_eql rfl rfl rfl) ?_
            refine l_q (q_assign (v := .bool _) rfl rfl) ?_
            refine l_nil ?_
            refine r_forget [(1, .string _), (2, .string _), (55, .bool _)] ⟨rfl, rfl, rfl, trivial⟩ (fun e83 => ?_)
            refine r_cond rfl (fun hc84 => ?_) (fun hc84 => ?_)
            · skip
              try simp only [decide_eq_true_eq, decide_eq_false_iff_not, Bool.not_eq_true', Bool.not_eq_false', Bool.not_not, Bool.not_true, Bool.not_false, Bool.not_eq_true, Bool.not_eq_false, Int.not_lt, Int.not_le, Bool.and_eq_true, Bool.or_eq_true, Bool.and_eq_false_iff, Bool.or_eq_false_iff] at hc84
              refine r_region' ?_
              refine l_q (q_assign (v := .int _ _) rfl rfl) ?_
              refine l_q (q_assign (v := .string _) rfl rfl) ?_
              refine l_nil ?_
              refine r_forget [(1, .string _), (2, .string _), (9, .int _ _), (10, .string _)] ⟨rfl, rfl, rfl, rfl, trivial⟩ (fun e85 => ?_)
              refine r_inBlock ?_
              refine r_seq ?_
              refine r_seq ?_
              have htw : stepTW kind sent = some (0, [32]) := by unfold stepTW; simp_all <;> omega
              refine r_region' ?_
              refine l_q (q_move (v := .string _) rfl rfl) ?_
              refine l_q (q_len_str rfl Try.underlying9 rfl rfl) ?_
              refine l_q (q_move (v := .string _) rfl rfl) ?_
              refine l_q (q_len_str rfl Try.underlying9 rfl rfl) ?_
              refine l_q (q_lss rfl rfl rfl) ?_
              refine l_q (q_move (v := .bool _) rfl rfl) ?_
              refine l_part 62 rfl (fun hc86 => ?_) (fun hc86 => ?_)
              · skip
                try simp only [decide_eq_true_eq, decide_eq_false_iff_not, Bool.not_eq_true', Bool.not_eq_false', Bool.not_not, Bool.not_true, Bool.not_false, Bool.not_eq_true, Bool.not_eq_false, Int.not_lt, Int.not_le, Bool.and_eq_true, Bool.or_eq_true, Bool.and_eq_false_iff, Bool.or_eq_false_iff] at hc86
                have hpf := pfx_short hc86
                refine l_q (q_skip rfl) ?_
                refine l_q (q_skip rfl) ?_
                refine l_q (q_skip rfl) ?_
                refine l_q (q_skip rfl) ?_
                refine l_q (q_skip rfl) ?_
                refine l_q (q_skip rfl) ?_
                refine l_q (q_pick_t (v := .bool _) rfl rfl rfl) ?_
                refine l_nil ?_
                refine r_forget [(1, .string _), (2, .string _), (9, .int _ _), (10, .string _), (69, .bool _)] ⟨rfl, rfl, rfl, rfl, rfl, trivial⟩ (fun e87 => ?_)
                refine r_cond_t rfl ?_
                refine r_seq ?_
                refine r_region' ?_
                refine l_q (q_assign (v := .string _) rfl rfl) ?_
                refine l_q (q_assign (v := .string _) rfl rfl) ?_
                refine l_q (q_assign (v := .bool _) rfl rfl) ?_
                refine l_nil ?_
                refine r_forget [(6, .string _), (7, .string _), (8, .bool _)] ⟨rfl, rfl, rfl, trivial⟩ (fun e88 => ?_)
                refine r_ret_ (vs := [.string _, .string _, .bool _]) rfl Try.func63 rfl (.nil _) ⟨rfl, rfl, rfl, trivial⟩ ?_
                exact ⟨tup3 (vstr_eq (congrArg (fun p => p.1) (stepR_no htw hpf)).symm) (vstr_eq (congrArg (fun p => p.2.1) (stepR_no htw hpf)).symm) (vbool_eq (congrArg (fun p => p.2.2) (stepR_no htw hpf)).symm), Ext.of_below hB⟩
              · skip
                try simp only [decide_eq_true_eq, decide_eq_false_iff_not, Bool.not_eq_true', Bool.not_eq_false', Bool.not_not, Bool.not_true, Bool.not_false, Bool.not_eq_true, Bool.not_eq_false, Int.not_lt, Int.not_le, Bool.and_eq_true, Bool.or_eq_true, Bool.and_eq_false_iff, Bool.or_eq_false_iff] at hc86
                refine l_q (q_move (v := .string _) rfl rfl) ?_
                refine l_q (q_move (v := .string _) rfl rfl) ?_
                refine l_q (q_len_str rfl Try.underlying9 rfl rfl) ?_
                refine l_q (q_slice_str_hi Try.underlying9 rfl rfl (by omega) rfl) ?_
                refine l_q (q_move (v := .string _) rfl rfl) ?_
                refine l_q (q_neq_str rfl rfl rfl) ?_
                refine l_q (q_pick_f (v := .bool _) rfl rfl rfl) ?_
                refine l_nil ?_
                refine r_forget [(1, .string _), (2, .string _), (9, .int _ _), (10, .string _), (69, .bool _)] ⟨rfl, rfl, rfl, rfl, rfl, trivial⟩ (fun e89 => ?_)
                refine r_cond rfl (fun hc90 => ?_) (fun hc90 => ?_)
                · skip
                  try simp only [decide_eq_true_eq, decide_eq_false_iff_not, Bool.not_eq_true', Bool.not_eq_false', Bool.not_not, Bool.not_true, Bool.not_false, Bool.not_eq_true, Bool.not_eq_false, Int.not_lt, Int.not_le, Bool.and_eq_true, Bool.or_eq_true, Bool.and_eq_false_iff, Bool.or_eq_false_iff] at hc90
                  have hpf := pfx_no hc90
                  refine r_seq ?_
                  refine r_region' ?_
                  refine l_q (q_assign (v := .string _) rfl rfl) ?_
                  refine l_q (q_assign (v := .string _) rfl rfl) ?_
                  refine l_q (q_assign (v := .bool _) rfl rfl) ?_
                  refine l_nil ?_
                  refine r_forget [(6, .string _), (7, .string _), (8, .bool _)] ⟨rfl, rfl, rfl, trivial⟩ (fun e91 => ?_)
                  refine r_ret_ (vs := [.string _, .string _, .bool _]) rfl Try.func63 rfl (.nil _) ⟨rfl, rfl, rfl, trivial⟩ ?_
                  exact ⟨tup3 (vstr_eq (congrArg (fun p => p.1) (stepR_no htw hpf)).symm) (vstr_eq (congrArg (fun p => p.2.1) (stepR_no htw hpf)).symm) (vbool_eq (congrArg (fun p => p.2.2) (stepR_no htw hpf)).symm), Ext.of_below hB⟩
                · skip
                  try simp only [decide_eq_true_eq, decide_eq_false_iff_not, Bool.not_eq_true', Bool.not_eq_false', Bool.not_not, Bool.not_true, Bool.not_false, Bool.not_eq_true, Bool.not_eq_false, Int.not_lt, Int.not_le, Bool.and_eq_true, Bool.or_eq_true, Bool.and_eq_false_iff, Bool.or_eq_false_iff] at hc90
                  have hpf := pfx_yes hc90
                  refine r_skip ?_
                  refine r_seq ?_
                  refine r_draw ext_refl' ext_trans' [0, 1, 2, 3, 4, 5, 6, 7, 8, 9] [] 2 (by kernel_rfl) (by kernel_rfl) ?_
                  intro w92 _ hE92
                  replace hB := below_ext hB hE92 hsz
                  replace hsz := Nat.le_trans hsz hE92.size
                  refine m_q rfl rfl (fun w' hC' => q_move (v := .string _) rfl rfl) ?_
                  refine m_q rfl rfl (fun w' hC' => q_move (v := .int _ _) rfl rfl) ?_
                  refine m_q rfl rfl (fun w' hC' => q_slice_str_lo Try.underlying9 rfl rfl (by omega) rfl) ?_
                  refine m_q rfl rfl (fun w' hC' => q_move (v := .string _) rfl rfl) ?_
                  refine m_q rfl rfl (fun w' hC' => q_move (v := .string _) rfl rfl) ?_
                  refine m_q rfl rfl (fun w' hC' => q_len_str rfl Try.underlying9 rfl rfl) ?_
                  refine m_q rfl rfl (fun w' hC' => q_slice_str_lo Try.underlying9 rfl rfl (by omega) rfl) ?_
                  refine m_q rfl rfl (fun w' hC' => q_assign (v := .string _) rfl rfl) ?_
                  refine m_q rfl rfl (fun w' hC' => q_assign (v := .string _) rfl rfl) ?_
                  refine m_q rfl rfl (fun w' hC' => q_assign (v := .bool _) rfl rfl) ?_
                  refine m_nil ?_
                  refine r_forget [(6, .string _), (7, .string _), (8, .bool _)] ⟨rfl, rfl, rfl, trivial⟩ (fun e93 => ?_)
                  refine r_ret_ (vs := [.string _, .string _, .bool _]) rfl Try.func63 rfl (.nil _) ⟨rfl, rfl, rfl, trivial⟩ ?_
                  exact ⟨tup3 (vstr_eq (congrArg (fun p => p.1) (stepR_yes htw hpf)).symm) (vstr_eq (congrArg (fun p => p.2.1) (stepR_yes htw hpf)).symm) (vbool_eq (congrArg (fun p => p.2.2) (stepR_yes htw hpf)).symm), Ext.of_below hB⟩
            · skip
              try simp only [decide_eq_true_eq, decide_eq_false_iff_not, Bool.not_eq_true', Bool.not_eq_false', Bool.not_not, Bool.not_true, Bool.not_false, Bool.not_eq_true, Bool.not_eq_false, Int.not_lt, Int.not_le, Bool.and_eq_true, Bool.or_eq_true, Bool.and_eq_false_iff, Bool.or_eq_false_iff] at hc84
              refine r_seq ?_
              refine r_region' ?_
              refine l_q (q_assign (v := .string _) rfl rfl) ?_
              refine l_q (q_assign (v := .string _) rfl rfl) ?_
              refine l_q (q_assign (v := .bool _) rfl rfl) ?_
              refine l_nil ?_
              refine r_forget [(6, .string _), (7, .string _), (8, .bool _)] ⟨rfl, rfl, rfl, trivial⟩ (fun e94 => ?_)
              refine r_ret_ (vs := [.string _, .string _, .bool _]) rfl Try.func63 rfl (.nil _) ⟨rfl, rfl, rfl, trivial⟩ ?_
              have htw : stepTW kind sent = none := by unfold stepTW; simp_all <;> (first | omega | (intro h; omega))
              exact ⟨tup3 (vstr_eq (congrArg (fun p => p.1) (stepR_none htw)).symm) (vstr_eq (congrArg (fun p => p.2.1) (stepR_none htw)).symm) (vbool_eq (congrArg (fun p => p.2.2) (stepR_none htw)).symm), Ext.of_below hB⟩
theorem do_ret (sent read : Sg) (xa : Option Addr) (xc : Nat) (xs : List Int) (w : World) (hx : Row w xa xs.length xc 1 (xs.map vint)) (hxn : xs.length ≤ 2097152) (hs : sent.length ≤ 2097152) (hr : read.length ≤ 2097152) : Ret Try.prog 73 [vstr sent, vstr read, .slice xa xs.length xc] w (fun v w' => v = .tuple ⟨[vint ((doS sent read 0 xs).1), .bool ((doS sent read 0 xs).2)]⟩ ∧ Ext w w') := by
  have hB := Below.refl w.heap.size w
  have hsz : w.heap.size ≤ w.heap.size := Nat.le_refl _
  refine ret_of_runs (args := [_, _, _]) Try.func73 rfl (Nat.le_of_ble_eq_true rfl) (by kernel_rfl) ?_
  refine r_seq ?_
  refine r_region' ?_
  refine l_q (q_assign (v := .int _ _) rfl rfl) ?_
  refine l_q (q_assign (v := .bool _) rfl rfl) ?_
  refine l_nil ?_
  refine r_forget [(0, .string _), (1, .string _), (2, .slice _ _ _)] ⟨rfl, rfl, rfl, trivial⟩ (fun e1 => ?_)
  refine r_seq ?_
  refine r_region' ?_
  refine l_q (q_assign (v := .int _ _) rfl rfl) ?_
  refine l_nil ?_
  refine r_seq ?_
  refine r_seq ?_
  refine r_region' ?_
  refine l_q (q_assign (v := .int _ _) rfl rfl) ?_
  refine l_nil ?_
  refine r_block ?_
  refine r_rounds (α := Nat × Int × Sg × Sg) (fun ⟨k, n, s, r⟩ e wl => Knows e [(0, vstr s), (1, vstr r), (2, .slice xa xs.length xc), (8, vint n), (9, vint (k : Int))] ∧ (k ≤ xs.length) ∧ (0 ≤ n ∧ n ≤ k) ∧ (s.length ≤ sent.length ∧ r.length ≤ read.length) ∧ (doS sent read 0 xs = doS s r n (xs.drop k)) ∧ (w.heap.size ≤ wl.heap.size) ∧ (Below w.heap.size w wl)) (fun ⟨k, n, s, r⟩ => xs.length - k) (0, 0, sent, read) ?_ ?_
  · skip
    exact ⟨⟨rfl, rfl, rfl, rfl, rfl, trivial⟩, (Nat.zero_le _), (by omega), (by omega), rfl, hsz, hB⟩
  · skip
    rintro ⟨k, n, s, r⟩ el2 wl2 ⟨hkn, hkk, hn, hsl, hd, hsz, hB⟩ ih2
    obtain ⟨e2, rfl⟩ := knows_env hkn
    refine r_seq ?_
    refine r_seq ?_
    refine r_region' ?_
    refine l_q (q_move (v := .int _ _) rfl rfl) ?_
    refine l_q (q_move (v := .slice _ _ _) rfl rfl) ?_
    refine l_q (q_len rfl Try.underlying25 rfl rfl) ?_
    refine l_q (q_lss rfl rfl rfl) ?_
    refine l_nil ?_
    refine r_forget [(0, .string _), (1, .string _), (2, .slice _ _ _), (8, .int _ _), (9, .int _ _), (16, .bool _)] ⟨rfl, rfl, rfl, rfl, rfl, rfl, trivial⟩ (fun e3 => ?_)
    refine r_cond rfl (fun hc4 => ?_) (fun hc4 => ?_)
    · skip
      try simp only [decide_eq_true_eq, decide_eq_false_iff_not, Bool.not_eq_true', Bool.not_eq_false', Bool.not_not, Bool.not_true, Bool.not_false, Bool.not_eq_true, Bool.not_eq_false, Int.not_lt, Int.not_le, Bool.and_eq_true, Bool.or_eq_true, Bool.and_eq_false_iff, Bool.or_eq_false_iff] at hc4
      have hkl : k < xs.length := by omega
      have hcl := cost_le (xs.getD k 0)
      refine r_skip ?_
      refine r_seq ?_
      refine r_block ?_
      refine r_seq ?_
      refine r_region' ?_
      refine l_q (q_move (v := .slice _ _ _) rfl rfl) ?_
      refine l_q (q_move (v := .int _ _) rfl rfl) ?_
      obtain ⟨b5, o5, ha5, hh5⟩ := (hx.below hB).at1 k ((xs).getD k 0) (getD_some (by omega))
      refine l_q (q_indexAddr1 Try.underlying25 Try.sizeOf3 rfl ha5 rfl (by omega) rfl) ?_
      refine l_q (q_load Try.isAgg3 rfl (hh5) rfl) ?_
      refine l_q (q_move (v := .string _) rfl rfl) ?_
      refine l_q (q_move (v := .string _) rfl rfl) ?_
      refine l_o (o_call Try.call63 rfl (step_ret _ _ _ _ (by omega) (by omega)) rfl ?_)
      rintro _ w6 ⟨rfl, hE6⟩
      replace hB := below_ext hB hE6 hsz
      replace hsz := Nat.le_trans hsz hE6.size
      refine l_q (q_move (v := .tuple _) rfl rfl) ?_
      refine l_q (q_extract (vs := [_, _, _]) (v := .string _) rfl rfl rfl) ?_
      refine l_q (q_extract (vs := [_, _, _]) (v := .string _) rfl rfl rfl) ?_
      refine l_q (q_extract (vs := [_, _, _]) (v := .bool _) rfl rfl rfl) ?_
      refine l_q (q_assign (v := .string _) rfl rfl) ?_
      refine l_q (q_assign (v := .string _) rfl rfl) ?_
      refine l_q (q_assign (v := .bool _) rfl rfl) ?_
      refine l_nil ?_
      refine r_forget [(2, .slice _ _ _), (8, .int _ _), (9, .int _ _), (10, .string _), (11, .string _), (12, .bool _)] ⟨rfl, rfl, rfl, rfl, rfl, rfl, trivial⟩ (fun e7 => ?_)
      refine r_seq ?_
      refine r_seq ?_
      refine r_region' ?_
      refine l_q (q_move (v := .bool _) rfl rfl) ?_
      refine l_q (q_not rfl rfl) ?_
      refine l_nil ?_
      refine r_forget [(2, .slice _ _ _), (8, .int _ _), (9, .int _ _), (10, .string _), (11, .string _), (31, .bool _)] ⟨rfl, rfl, rfl, rfl, rfl, rfl, trivial⟩ (fun e8 => ?_)
      refine r_cond rfl (fun hc9 => ?_) (fun hc9 => ?_)
      · skip
        try simp only [decide_eq_true_eq, decide_eq_false_iff_not, Bool.not_eq_true', Bool.not_eq_false', Bool.not_not, Bool.not_true, Bool.not_false, Bool.not_eq_true, Bool.not_eq_false, Int.not_lt, Int.not_le, Bool.and_eq_true, Bool.or_eq_true, Bool.and_eq_false_iff, Bool.or_eq_false_iff] at hc9
        have hst := hc9
        refine r_seq ?_
        refine r_region' ?_
        refine l_q (q_assign (v := .int _ _) rfl rfl) ?_
        refine l_q (q_assign (v := .bool _) rfl rfl) ?_
        refine l_nil ?_
        refine r_forget [(6, .int _ _), (7, .bool _)] ⟨rfl, rfl, trivial⟩ (fun e10 => ?_)
        refine r_ret_ (vs := [.int _ _, .bool _]) rfl Try.func73 rfl (.nil _) ⟨rfl, rfl, trivial⟩ ?_
        exact ⟨tup2 (vint_eq (by rw [hd, doS_no hkl hst])) (vbool_eq (by rw [hd, doS_no hkl hst])), Ext.of_below hB⟩
      · skip
        try simp only [decide_eq_true_eq, decide_eq_false_iff_not, Bool.not_eq_true', Bool.not_eq_false', Bool.not_not, Bool.not_true, Bool.not_false, Bool.not_eq_true, Bool.not_eq_false, Int.not_lt, Int.not_le, Bool.and_eq_true, Bool.or_eq_true, Bool.and_eq_false_iff, Bool.or_eq_false_iff] at hc9
        have hst := hc9
        refine r_skip ?_
        refine r_region' ?_
        refine l_q (q_move (v := .string _) rfl rfl) ?_
        refine l_q (q_move (v := .string _) rfl rfl) ?_
        refine l_q (q_move (v := .int _ _) rfl rfl) ?_
        refine l_q (q_move (v := .slice _ _ _) rfl rfl) ?_
        refine l_q (q_move (v := .int _ _) rfl rfl) ?_
        obtain ⟨b11, o11, ha11, hh11⟩ := (hx.below hB).at1 k ((xs).getD k 0) (getD_some (by omega))
        refine l_q (q_indexAddr1 Try.underlying25 Try.sizeOf3 rfl ha11 rfl (by omega) rfl) ?_
        refine l_q (q_load Try.isAgg3 rfl (hh11) rfl) ?_
        refine l_o (o_call Try.call64 rfl (cost_ret _ _) rfl ?_)
        rintro _ w12 ⟨rfl, rfl⟩
        refine l_q (q_add rfl rfl (by omega) rfl) ?_
        refine l_q (q_assign (v := .string _) rfl rfl) ?_
        refine l_q (q_assign (v := .string _) rfl rfl) ?_
        refine l_q (q_assign (v := .int _ _) rfl rfl) ?_
        refine l_nil ?_
        refine r_forget [(0, .string _), (1, .string _), (2, .slice _ _ _), (8, .int _ _), (9, .int _ _)] ⟨rfl, rfl, rfl, rfl, rfl, trivial⟩ (fun e13 => ?_)
        refine r_inBlock ?_
        refine r_region' ?_
        refine l_q (q_move (v := .int _ _) rfl rfl) ?_
        refine l_q (q_add rfl rfl (by omega) rfl) ?_
        refine l_q (q_assign (v := .int _ _) rfl rfl) ?_
        refine l_nil ?_
        refine r_forget [(0, .string _), (1, .string _), (2, .slice _ _ _), (8, .int _ _), (9, .int _ _)] ⟨rfl, rfl, rfl, rfl, rfl, trivial⟩ (fun e14 => ?_)
        exact ih2 (k + 1, n + (cost ((xs).getD k 0)), (stepR ((xs).getD k 0) s r).1, (stepR ((xs).getD k 0) s r).2.1) _ _ ⟨⟨rfl, rfl, rfl, rfl, by first | rfl | exact vint_eq (by omega), trivial⟩, (by omega), (by have := cost_le (xs.getD k 0); omega), (by have := stepR_len (xs.getD k 0) s r; omega), (by rw [hd]; exact doS_step hkl hst), hsz, hB⟩ (by first | omega | (dsimp only; omega))
    · skip
      try simp only [decide_eq_true_eq, decide_eq_false_iff_not, Bool.not_eq_true', Bool.not_eq_false', Bool.not_not, Bool.not_true, Bool.not_false, Bool.not_eq_true, Bool.not_eq_false, Int.not_lt, Int.not_le, Bool.and_eq_true, Bool.or_eq_true, Bool.and_eq_false_iff, Bool.or_eq_false_iff] at hc4
      refine r_exit rfl ?_
      refine r_seq ?_
      refine r_region' ?_
      refine l_q (q_move (v := .int _ _) rfl rfl) ?_
      refine l_q (q_move (v := .string _) rfl rfl) ?_
      refine l_q (q_eql_str rfl rfl rfl) ?_
      refine l_q (q_move (v := .bool _) rfl rfl) ?_
      refine l_part 44 rfl (fun hc15 => ?_) (fun hc15 => ?_)
      · skip
        try simp only [decide_eq_true_eq, decide_eq_false_iff_not, Bool.not_eq_true', Bool.not_eq_false', Bool.not_not, Bool.not_true, Bool.not_false, Bool.not_eq_true, Bool.not_eq_false, Int.not_lt, Int.not_le, Bool.and_eq_true, Bool.or_eq_true, Bool.and_eq_false_iff, Bool.or_eq_false_iff] at hc15
        refine l_q (q_move (v := .string _) rfl rfl) ?_
        refine l_q (q_eql_str rfl rfl rfl) ?_
        refine l_q (q_pick_t (v := .bool _) rfl rfl rfl) ?_
        refine l_q (q_assign (v := .int _ _) rfl rfl) ?_
        refine l_q (q_assign (v := .bool _) rfl rfl) ?_
        refine l_nil ?_
        refine r_forget [(6, .int _ _), (7, .bool _)] ⟨rfl, rfl, trivial⟩ (fun e16 => ?_)
        refine r_ret_ (vs := [.int _ _, .bool _]) rfl Try.func73 rfl (.nil _) ⟨rfl, rfl, trivial⟩ ?_
        exact ⟨tup2 (vint_eq (by rw [hd, doS_end (by omega)])) (vbool_eq (by rw [hd, doS_end (by omega)]; simp_all)), Ext.of_below hB⟩
      · skip
        try simp only [decide_eq_true_eq, decide_eq_false_iff_not, Bool.not_eq_true', Bool.not_eq_false', Bool.not_not, Bool.not_true, Bool.not_false, Bool.not_eq_true, Bool.not_eq_false, Int.not_lt, Int.not_le, Bool.and_eq_true, Bool.or_eq_true, Bool.and_eq_false_iff, Bool.or_eq_false_iff] at hc15
        refine l_q (q_skip rfl) ?_
        refine l_q (q_skip rfl) ?_
        refine l_q (q_pick_f (v := .bool _) rfl rfl rfl) ?_
        refine l_q (q_assign (v := .int _ _) rfl rfl) ?_
        refine l_q (q_assign (v := .bool _) rfl rfl) ?_
        refine l_nil ?_
        refine r_forget [(6, .int _ _), (7, .bool _)] ⟨rfl, rfl, trivial⟩ (fun e17 => ?_)
        refine r_ret_ (vs := [.int _ _, .bool _]) rfl Try.func73 rfl (.nil _) ⟨rfl, rfl, trivial⟩ ?_
        exact ⟨tup2 (vint_eq (by rw [hd, doS_end (by omega)])) (vbool_eq (by rw [hd, doS_end (by omega)]; simp_all)), Ext.of_below hB⟩
end Go.Proofs.Ytkcbgpilfegofaa
