/- Contracts. -/
import Derived.Test.YtkcbgpilfegofaaF20
set_option linter.unusedVariables false
set_option linter.unusedSimpArgs false
namespace Go.Proofs.Ytkcbgpilfegofaa
open Go Go.RowKit Go.Gv Go.Fl

theorem thin_le {c : List Sg} {s : Sg} (h : thin c s = true) : ∀ s ∈ c, s.length ≤ 2097152 := by
  unfold thin at h
  simp only [Bool.and_eq_true, List.all_eq_true, decide_eq_true_eq] at h
  intro s hs
  have := h.1.2 s hs
  omega


theorem flashSends_ret (a : Option Addr) (cc : Nat) (c : List Sg) (ta : Option Addr) (tc : Nat) (t : List Int) (w : World) (hrow : Row w a c.length cc 1 (c.map vstr)) (hcn : c.length ≤ 2097152) (ht : Row w ta t.length tc 1 (t.map vint)) (htn : t.length ≤ 2097152) : Ret Try.prog 3 [.agg ⟨[.slice a c.length cc]⟩, .slice ta t.length tc] w (fun v w' => v = .bool true ∧ Ext w w') := by
  have hB := Below.refl w.heap.size w
  have hsz : w.heap.size ≤ w.heap.size := Nat.le_refl _
  refine ret_of_runs (args := [_, _]) Try.func3 rfl (Nat.le_of_ble_eq_true rfl) (by kernel_rfl) ?_
  refine r_seq ?_
  refine r_region' ?_
  refine l_o (o_box rfl rfl rfl ?_)
  intro b1 w1 hzl1 hzr1 _ hb1 hE1
  have hbs_b1 : w.heap.size ≤ b1 := Nat.le_trans hsz hzl1
  replace hB := below_ext hB hE1 hsz
  replace hsz := Nat.le_trans hsz hE1.size
  refine l_q (q_assign (v := .bool _) rfl rfl) ?_
  refine l_nil ?_
  refine r_forget [(1, .slice _ _ _), (2, .pointer _)] ⟨rfl, rfl, trivial⟩ (fun e2 => ?_)
  refine r_seq ?_
  refine r_seq ?_
  refine r_region' ?_
  refine l_q (q_load_agg (n := 1) Try.isAgg24 Try.sizeOf24 rfl ((hb1.cells' (cs' := [_]) 0 1 rfl)) rfl rfl) ?_
  refine l_o (o_call Try.call17 rfl (thin_ret _ _ _ _ _ (hrow.below hB) (by omega) (by first | omega | simp)) rfl ?_)
  rintro _ w3 ⟨rfl, hE3⟩
  replace hB := below_ext hB hE3 hsz
  replace hb1 := hb1.ext hE3
  replace hsz := Nat.le_trans hsz hE3.size
  refine l_q (q_not rfl rfl) ?_
  refine l_q (q_move (v := .bool _) rfl rfl) ?_
  refine l_part 12 rfl (fun hc4 => ?_) (fun hc4 => ?_)
  · skip
    try simp only [decide_eq_true_eq, decide_eq_false_iff_not, Bool.not_eq_true', Bool.not_eq_false', Bool.not_not, Bool.not_true, Bool.not_false, Bool.not_eq_true, Bool.not_eq_false, Int.not_lt, Int.not_le, Bool.and_eq_true, Bool.or_eq_true, Bool.and_eq_false_iff, Bool.or_eq_false_iff] at hc4
    refine l_q (q_skip rfl) ?_
    refine l_q (q_skip rfl) ?_
    refine l_q (q_skip rfl) ?_
    refine l_q (q_pick_t (v := .bool _) rfl rfl rfl) ?_
    refine l_nil ?_
    refine r_forget [(1, .slice _ _ _), (2, .pointer _), (16, .bool _)] ⟨rfl, rfl, rfl, trivial⟩ (fun e5 => ?_)
    refine r_cond_t rfl ?_
    refine r_seq ?_
    refine r_region' ?_
    refine l_o (o_call Try.call18 rfl (awake_ret _) rfl ?_)
    rintro _ w6 ⟨rfl, hE6⟩
    replace hB := below_ext hB hE6 hsz
    replace hb1 := hb1.ext hE6
    replace hsz := Nat.le_trans hsz hE6.size
    refine l_q (q_assign (v := .bool _) rfl rfl) ?_
    refine l_nil ?_
    refine r_forget [(4, .bool _)] ⟨rfl, trivial⟩ (fun e7 => ?_)
    refine r_ret_ (vs := [.bool _]) rfl Try.func3 rfl (.nil _) ⟨rfl, trivial⟩ ?_
    exact ⟨rfl, Ext.of_below hB⟩
  · skip
    try simp only [decide_eq_true_eq, decide_eq_false_iff_not, Bool.not_eq_true', Bool.not_eq_false', Bool.not_not, Bool.not_true, Bool.not_false, Bool.not_eq_true, Bool.not_eq_false, Int.not_lt, Int.not_le, Bool.and_eq_true, Bool.or_eq_true, Bool.and_eq_false_iff, Bool.or_eq_false_iff] at hc4
    have hth : thin c [] = true := by simpa using hc4
    have hcl := thin_le hth
    refine l_q (q_move (v := .slice _ _ _) rfl rfl) ?_
    refine l_q (q_len rfl Try.underlying25 rfl rfl) ?_
    refine l_q (q_gtr rfl rfl rfl) ?_
    refine l_q (q_pick_f (v := .bool _) rfl rfl rfl) ?_
    refine l_nil ?_
    refine r_forget [(1, .slice _ _ _), (2, .pointer _), (16, .bool _)] ⟨rfl, rfl, rfl, trivial⟩ (fun e8 => ?_)
    refine r_cond rfl (fun hc9 => ?_) (fun hc9 => ?_)
    · skip
      try simp only [decide_eq_true_eq, decide_eq_false_iff_not, Bool.not_eq_true', Bool.not_eq_false', Bool.not_not, Bool.not_true, Bool.not_false, Bool.not_eq_true, Bool.not_eq_false, Int.not_lt, Int.not_le, Bool.and_eq_true, Bool.or_eq_true, Bool.and_eq_false_iff, Bool.or_eq_false_iff] at hc9
      refine r_seq ?_
      refine r_region' ?_
      refine l_o (o_call Try.call18 rfl (awake_ret _) rfl ?_)
      rintro _ w10 ⟨rfl, hE10⟩
      replace hB := below_ext hB hE10 hsz
      replace hb1 := hb1.ext hE10
      replace hsz := Nat.le_trans hsz hE10.size
      refine l_q (q_assign (v := .bool _) rfl rfl) ?_
      refine l_nil ?_
      refine r_forget [(4, .bool _)] ⟨rfl, trivial⟩ (fun e11 => ?_)
      refine r_ret_ (vs := [.bool _]) rfl Try.func3 rfl (.nil _) ⟨rfl, trivial⟩ ?_
      exact ⟨rfl, Ext.of_below hB⟩
    · skip
      try simp only [decide_eq_true_eq, decide_eq_false_iff_not, Bool.not_eq_true', Bool.not_eq_false', Bool.not_not, Bool.not_true, Bool.not_false, Bool.not_eq_true, Bool.not_eq_false, Int.not_lt, Int.not_le, Bool.and_eq_true, Bool.or_eq_true, Bool.and_eq_false_iff, Bool.or_eq_false_iff] at hc9
      refine r_skip ?_
      refine r_seq ?_
      refine r_region' ?_
      refine l_q (q_load_agg (n := 1) Try.isAgg24 Try.sizeOf24 rfl ((hb1.cells' (cs' := [_]) 0 1 rfl)) rfl rfl) ?_
      refine l_o (o_call Try.call20 rfl (code_ret _ _ c _ (hrow.below hB) (by omega)) rfl ?_)
      rintro _ w12 ⟨ca12, cc12, rfl, hrc12, hE12⟩
      replace hB := below_ext hB hE12 hsz
      replace hb1 := hb1.ext hE12
      replace hsz := Nat.le_trans hsz hE12.size
      refine l_o (o_call Try.call19 rfl (checkCode_ret _ _ c _ hrc12 (by omega) hcl) rfl ?_)
      rintro _ w13 ⟨rfl, hE13⟩
      replace hB := below_ext hB hE13 hsz
      replace hb1 := hb1.ext hE13
      replace hrc12 := hrc12.ext hE13
      replace hsz := Nat.le_trans hsz hE13.size
      refine l_q (q_assign (v := .int _ _) rfl rfl) ?_
      refine l_nil ?_
      refine r_forget [(1, .slice _ _ _), (2, .pointer _), (5, .int _ _)] ⟨rfl, rfl, rfl, trivial⟩ (fun e14 => ?_)
      refine r_seq ?_
      refine r_region' ?_
      refine l_q (q_load_agg (n := 1) Try.isAgg24 Try.sizeOf24 rfl ((hb1.cells' (cs' := [_]) 0 1 rfl)) rfl rfl) ?_
      refine l_o (o_call Try.call20 rfl (code_ret _ _ c _ (hrow.below hB) (by omega)) rfl ?_)
      rintro _ w15 ⟨ca15, cc15, rfl, hrc15, hE15⟩
      replace hB := below_ext hB hE15 hsz
      replace hb1 := hb1.ext hE15
      replace hrc12 := hrc12.ext hE15
      replace hsz := Nat.le_trans hsz hE15.size
      refine l_q (q_move (v := .slice _ _ _) rfl rfl) ?_
      refine l_o (o_call Try.call22 rfl (list_ret _ _ t _ (ht.below hB) (by omega)) rfl ?_)
      rintro _ w16 ⟨a16_0, c16_0, rfl, ho16_0, hE16⟩
      replace ho16_0 := own_mono ho16_0 (show w.heap.size ≤ _ by omega)
      replace hB := below_ext hB hE16 hsz
      replace hb1 := hb1.ext hE16
      replace hrc12 := hrc12.ext hE16
      replace hrc15 := hrc15.ext hE16
      replace hsz := Nat.le_trans hsz hE16.size
      refine l_o (o_call Try.call21 rfl (send_ret _ _ c _ _ t _ hrc15 (by omega) (Row.of_owns ho16_0) (by omega) hcl) rfl ?_)
      rintro _ w17 ⟨rfl, hE17⟩
      replace hB := below_ext hB hE17 hsz
      replace hb1 := hb1.ext hE17
      replace hrc12 := hrc12.ext hE17
      replace hrc15 := hrc15.ext hE17
      replace ho16_0 := own_ext ho16_0 hE17
      replace hsz := Nat.le_trans hsz hE17.size
      refine l_q (q_move (v := .tuple _) rfl rfl) ?_
      refine l_q (q_extract (vs := [_, _]) (v := .string _) rfl rfl rfl) ?_
      refine l_q (q_extract (vs := [_, _]) (v := .int _ _) rfl rfl rfl) ?_
      refine l_q (q_assign (v := .string _) rfl rfl) ?_
      refine l_q (q_assign (v := .int _ _) rfl rfl) ?_
      refine l_nil ?_
      refine r_forget [(1, .slice _ _ _), (2, .pointer _), (5, .int _ _), (6, .string _), (7, .int _ _)] ⟨rfl, rfl, rfl, rfl, rfl, trivial⟩ (fun e18 => ?_)
      refine r_seq ?_
      refine r_region' ?_
      refine l_q (q_load_agg (n := 1) Try.isAgg24 Try.sizeOf24 rfl ((hb1.cells' (cs' := [_]) 0 1 rfl)) rfl rfl) ?_
      refine l_o (o_call Try.call23 rfl (lfault_ret _ _ _ _ (hrow.below hB) (by omega)) rfl ?_)
      rintro _ w19 ⟨rfl, hE19⟩
      replace hB := below_ext hB hE19 hsz
      replace hb1 := hb1.ext hE19
      replace hrc12 := hrc12.ext hE19
      replace hrc15 := hrc15.ext hE19
      replace ho16_0 := own_ext ho16_0 hE19
      replace hsz := Nat.le_trans hsz hE19.size
      refine l_q (q_assign (v := .int _ _) rfl rfl) ?_
      refine l_nil ?_
      refine r_forget [(1, .slice _ _ _), (2, .pointer _), (5, .int _ _), (6, .string _), (7, .int _ _), (8, .int _ _)] ⟨rfl, rfl, rfl, rfl, rfl, rfl, trivial⟩ (fun e20 => ?_)
      refine r_seq ?_
      refine r_seq ?_
      refine r_region' ?_
      refine l_q (q_move (v := .int _ _) rfl rfl) ?_
      refine l_q (q_move (v := .int _ _) rfl rfl) ?_
      refine l_q (q_neq rfl rfl rfl) ?_
      refine l_nil ?_
      refine r_forget [(1, .slice _ _ _), (2, .pointer _), (6, .string _), (7, .int _ _), (8, .int _ _), (33, .bool _)] ⟨rfl, rfl, rfl, rfl, rfl, rfl, trivial⟩ (fun e21 => ?_)
      have hk22 : (!decide ((fault c) = (fault c))) = false := by simp
      refine r_cond_f ((congrArg Value.bool hk22 : Value.bool _ = _)) ?_
      refine r_skip ?_
      refine r_seq ?_
      refine r_block ?_
      refine r_seq ?_
      refine r_region' ?_
      refine l_q (q_move (v := .int _ _) rfl rfl) ?_
      refine l_q (q_neq rfl rfl rfl) ?_
      refine l_q (q_assign (v := .bool _) rfl rfl) ?_
      refine l_nil ?_
      refine r_forget [(1, .slice _ _ _), (2, .pointer _), (6, .string _), (7, .int _ _), (8, .int _ _), (34, .bool _)] ⟨rfl, rfl, rfl, rfl, rfl, rfl, trivial⟩ (fun e23 => ?_)
      refine r_cond rfl (fun hc24 => ?_) (fun hc24 => ?_)
      · skip
        try simp only [decide_eq_true_eq, decide_eq_false_iff_not, Bool.not_eq_true', Bool.not_eq_false', Bool.not_not, Bool.not_true, Bool.not_false, Bool.not_eq_true, Bool.not_eq_false, Int.not_lt, Int.not_le, Bool.and_eq_true, Bool.or_eq_true, Bool.and_eq_false_iff, Bool.or_eq_false_iff] at hc24
        have hne : ¬ fault c = 0 := hc24
        have hsd : send c t = ([], fault c) := by rw [send, if_pos hne]
        refine r_skip ?_
        refine r_inBlock ?_
        refine r_seq ?_
        refine r_seq ?_
        refine r_region' ?_
        refine l_q (q_move (v := .int _ _) rfl rfl) ?_
        refine l_q (q_neq rfl rfl rfl) ?_
        refine l_nil ?_
        refine r_forget [(1, .slice _ _ _), (2, .pointer _), (6, .string _), (7, .int _ _), (8, .int _ _), (47, .bool _)] ⟨rfl, rfl, rfl, rfl, rfl, rfl, trivial⟩ (fun e25 => ?_)
        have hk26 : (!decide ((fault c) = 0)) = true := by simp [hne]
        refine r_cond_t ((congrArg Value.bool hk26 : Value.bool _ = _)) ?_
        refine r_seq ?_
        refine r_region' ?_
        refine l_q (q_move (v := .int _ _) rfl rfl) ?_
        refine l_q (q_move (v := .int _ _) rfl rfl) ?_
        refine l_q (q_eql rfl rfl rfl) ?_
        refine l_q (q_move (v := .bool _) rfl rfl) ?_
        have hk27 : (decide (((send c t).2) = (fault c))) = true := by rw [hsd]; simp
        refine l_part 51 rfl (fun _ => ?_) (fun hx => absurd (hk27.symm.trans hx) (by decide))
        refine l_q (q_move (v := .string _) rfl rfl) ?_
        refine l_q (q_eql_str rfl rfl rfl) ?_
        refine l_q (q_pick_t (v := .bool _) rfl rfl rfl) ?_
        refine l_q (q_move (v := .bool _) rfl rfl) ?_
        have hk28 : (decide (((send c t).1) = [])) = true := by rw [hsd]; simp
        refine l_part 55 rfl (fun _ => ?_) (fun hx => absurd (hk28.symm.trans hx) (by decide))
        refine l_o (o_call Try.call18 rfl (awake_ret _) rfl ?_)
        rintro _ w29 ⟨rfl, hE29⟩
        replace hB := below_ext hB hE29 hsz
        replace hb1 := hb1.ext hE29
        replace hrc12 := hrc12.ext hE29
        replace hrc15 := hrc15.ext hE29
        replace ho16_0 := own_ext ho16_0 hE29
        replace hsz := Nat.le_trans hsz hE29.size
        refine l_q (q_pick_t (v := .bool _) rfl rfl rfl) ?_
        refine l_q (q_assign (v := .bool _) rfl rfl) ?_
        refine l_nil ?_
        refine r_forget [(4, .bool _)] ⟨rfl, trivial⟩ (fun e30 => ?_)
        refine r_ret_ (vs := [.bool _]) rfl Try.func3 rfl (.nil _) ⟨rfl, trivial⟩ ?_
        exact ⟨rfl, Ext.of_below hB⟩
      · skip
        try simp only [decide_eq_true_eq, decide_eq_false_iff_not, Bool.not_eq_true', Bool.not_eq_false', Bool.not_not, Bool.not_true, Bool.not_false, Bool.not_eq_true, Bool.not_eq_false, Int.not_lt, Int.not_le, Bool.and_eq_true, Bool.or_eq_true, Bool.and_eq_false_iff, Bool.or_eq_false_iff] at hc24
        have hfc : fault c = 0 := by simpa using hc24
        refine r_seq ?_
        refine r_region' ?_
        refine l_q (q_move (v := .slice _ _ _) rfl rfl) ?_
        refine l_q (q_len rfl Try.underlying25 rfl rfl) ?_
        refine l_q (q_gtr rfl rfl rfl) ?_
        refine l_q (q_assign (v := .bool _) rfl rfl) ?_
        refine l_nil ?_
        refine r_forget [(1, .slice _ _ _), (2, .pointer _), (6, .string _), (7, .int _ _), (8, .int _ _), (37, .bool _)] ⟨rfl, rfl, rfl, rfl, rfl, rfl, trivial⟩ (fun e31 => ?_)
        refine r_cond rfl (fun hc32 => ?_) (fun hc32 => ?_)
        · skip
          try simp only [decide_eq_true_eq, decide_eq_false_iff_not, Bool.not_eq_true', Bool.not_eq_false', Bool.not_not, Bool.not_true, Bool.not_false, Bool.not_eq_true, Bool.not_eq_false, Int.not_lt, Int.not_le, Bool.and_eq_true, Bool.or_eq_true, Bool.and_eq_false_iff, Bool.or_eq_false_iff] at hc32
          have hsd : send c t = ([], 3) := by rw [send, if_neg (by simpa using hfc), if_pos (by omega)]
          refine r_region' ?_
          refine l_q (q_assign (v := .int _ _) rfl rfl) ?_
          refine l_nil ?_
          refine r_forget [(1, .slice _ _ _), (2, .pointer _), (6, .string _), (7, .int _ _), (8, .int _ _)] ⟨rfl, rfl, rfl, rfl, rfl, trivial⟩ (fun e33 => ?_)
          refine r_inBlock ?_
          refine r_seq ?_
          refine r_seq ?_
          refine r_region' ?_
          refine l_q (q_move (v := .int _ _) rfl rfl) ?_
          refine l_q (q_neq rfl rfl rfl) ?_
          refine l_nil ?_
          refine r_forget [(1, .slice _ _ _), (2, .pointer _), (6, .string _), (7, .int _ _), (8, .int _ _), (47, .bool _)] ⟨rfl, rfl, rfl, rfl, rfl, rfl, trivial⟩ (fun e34 => ?_)
          have hk35 : (!decide (3 = 0)) = true := by decide
          refine r_cond_t ((congrArg Value.bool hk35 : Value.bool _ = _)) ?_
          refine r_seq ?_
          refine r_region' ?_
          refine l_q (q_move (v := .int _ _) rfl rfl) ?_
          refine l_q (q_move (v := .int _ _) rfl rfl) ?_
          refine l_q (q_eql rfl rfl rfl) ?_
          refine l_q (q_move (v := .bool _) rfl rfl) ?_
          have hk36 : (decide (((send c t).2) = 3)) = true := by rw [hsd]; simp
          refine l_part 51 rfl (fun _ => ?_) (fun hx => absurd (hk36.symm.trans hx) (by decide))
          refine l_q (q_move (v := .string _) rfl rfl) ?_
          refine l_q (q_eql_str rfl rfl rfl) ?_
          refine l_q (q_pick_t (v := .bool _) rfl rfl rfl) ?_
          refine l_q (q_move (v := .bool _) rfl rfl) ?_
          have hk37 : (decide (((send c t).1) = [])) = true := by rw [hsd]; simp
          refine l_part 55 rfl (fun _ => ?_) (fun hx => absurd (hk37.symm.trans hx) (by decide))
          refine l_o (o_call Try.call18 rfl (awake_ret _) rfl ?_)
          rintro _ w38 ⟨rfl, hE38⟩
          replace hB := below_ext hB hE38 hsz
          replace hb1 := hb1.ext hE38
          replace hrc12 := hrc12.ext hE38
          replace hrc15 := hrc15.ext hE38
          replace ho16_0 := own_ext ho16_0 hE38
          replace hsz := Nat.le_trans hsz hE38.size
          refine l_q (q_pick_t (v := .bool _) rfl rfl rfl) ?_
          refine l_q (q_assign (v := .bool _) rfl rfl) ?_
          refine l_nil ?_
          refine r_forget [(4, .bool _)] ⟨rfl, trivial⟩ (fun e39 => ?_)
          refine r_ret_ (vs := [.bool _]) rfl Try.func3 rfl (.nil _) ⟨rfl, trivial⟩ ?_
          exact ⟨rfl, Ext.of_below hB⟩
        · skip
          try simp only [decide_eq_true_eq, decide_eq_false_iff_not, Bool.not_eq_true', Bool.not_eq_false', Bool.not_not, Bool.not_true, Bool.not_false, Bool.not_eq_true, Bool.not_eq_false, Int.not_lt, Int.not_le, Bool.and_eq_true, Bool.or_eq_true, Bool.and_eq_false_iff, Bool.or_eq_false_iff] at hc32
          have h5 : ¬ 5 < t.length := by omega
          refine r_seq ?_
          refine r_region' ?_
          refine l_q (q_load_agg (n := 1) Try.isAgg24 Try.sizeOf24 rfl ((hb1.cells' (cs' := [_]) 0 1 rfl)) rfl rfl) ?_
          refine l_q (q_move (v := .slice _ _ _) rfl rfl) ?_
          refine l_o (o_call Try.call24 rfl (isText_ret _ _ _ _ _ _ _ (hrow.below hB) (by omega) (ht.below hB) (by omega)) rfl ?_)
          rintro _ w40 ⟨rfl, hE40⟩
          replace hB := below_ext hB hE40 hsz
          replace hb1 := hb1.ext hE40
          replace hrc12 := hrc12.ext hE40
          replace hrc15 := hrc15.ext hE40
          replace ho16_0 := own_ext ho16_0 hE40
          replace hsz := Nat.le_trans hsz hE40.size
          refine l_q (q_not rfl rfl) ?_
          refine l_q (q_assign (v := .bool _) rfl rfl) ?_
          refine l_nil ?_
          refine r_forget [(1, .slice _ _ _), (2, .pointer _), (6, .string _), (7, .int _ _), (8, .int _ _), (41, .bool _)] ⟨rfl, rfl, rfl, rfl, rfl, rfl, trivial⟩ (fun e41 => ?_)
          refine r_cond rfl (fun hc42 => ?_) (fun hc42 => ?_)
          · skip
            try simp only [decide_eq_true_eq, decide_eq_false_iff_not, Bool.not_eq_true', Bool.not_eq_false', Bool.not_not, Bool.not_true, Bool.not_false, Bool.not_eq_true, Bool.not_eq_false, Int.not_lt, Int.not_le, Bool.and_eq_true, Bool.or_eq_true, Bool.and_eq_false_iff, Bool.or_eq_false_iff] at hc42
            have htx : isText c t = false := by simpa using hc42
            have hsd : send c t = ([], 2) := by rw [send, if_neg (by simpa using hfc), if_neg h5, if_neg (by rw [htx]; simp)]
            refine r_region' ?_
            refine l_q (q_assign (v := .int _ _) rfl rfl) ?_
            refine l_nil ?_
            refine r_forget [(1, .slice _ _ _), (2, .pointer _), (6, .string _), (7, .int _ _), (8, .int _ _)] ⟨rfl, rfl, rfl, rfl, rfl, trivial⟩ (fun e43 => ?_)
            refine r_inBlock ?_
            refine r_seq ?_
            refine r_seq ?_
            refine r_region' ?_
            refine l_q (q_move (v := .int _ _) rfl rfl) ?_
            refine l_q (q_neq rfl rfl rfl) ?_
            refine l_nil ?_
            refine r_forget [(1, .slice _ _ _), (2, .pointer _), (6, .string _), (7, .int _ _), (8, .int _ _), (47, .bool _)] ⟨rfl, rfl, rfl, rfl, rfl, rfl, trivial⟩ (fun e44 => ?_)
            have hk45 : (!decide (2 = 0)) = true := by decide
            refine r_cond_t ((congrArg Value.bool hk45 : Value.bool _ = _)) ?_
            refine r_seq ?_
            refine r_region' ?_
            refine l_q (q_move (v := .int _ _) rfl rfl) ?_
            refine l_q (q_move (v := .int _ _) rfl rfl) ?_
            refine l_q (q_eql rfl rfl rfl) ?_
            refine l_q (q_move (v := .bool _) rfl rfl) ?_
            have hk46 : (decide (((send c t).2) = 2)) = true := by rw [hsd]; simp
            refine l_part 51 rfl (fun _ => ?_) (fun hx => absurd (hk46.symm.trans hx) (by decide))
            refine l_q (q_move (v := .string _) rfl rfl) ?_
            refine l_q (q_eql_str rfl rfl rfl) ?_
            refine l_q (q_pick_t (v := .bool _) rfl rfl rfl) ?_
            refine l_q (q_move (v := .bool _) rfl rfl) ?_
            have hk47 : (decide (((send c t).1) = [])) = true := by rw [hsd]; simp
            refine l_part 55 rfl (fun _ => ?_) (fun hx => absurd (hk47.symm.trans hx) (by decide))
            refine l_o (o_call Try.call18 rfl (awake_ret _) rfl ?_)
            rintro _ w48 ⟨rfl, hE48⟩
            replace hB := below_ext hB hE48 hsz
            replace hb1 := hb1.ext hE48
            replace hrc12 := hrc12.ext hE48
            replace hrc15 := hrc15.ext hE48
            replace ho16_0 := own_ext ho16_0 hE48
            replace hsz := Nat.le_trans hsz hE48.size
            refine l_q (q_pick_t (v := .bool _) rfl rfl rfl) ?_
            refine l_q (q_assign (v := .bool _) rfl rfl) ?_
            refine l_nil ?_
            refine r_forget [(4, .bool _)] ⟨rfl, trivial⟩ (fun e49 => ?_)
            refine r_ret_ (vs := [.bool _]) rfl Try.func3 rfl (.nil _) ⟨rfl, trivial⟩ ?_
            exact ⟨rfl, Ext.of_below hB⟩
          · skip
            try simp only [decide_eq_true_eq, decide_eq_false_iff_not, Bool.not_eq_true', Bool.not_eq_false', Bool.not_not, Bool.not_true, Bool.not_false, Bool.not_eq_true, Bool.not_eq_false, Int.not_lt, Int.not_le, Bool.and_eq_true, Bool.or_eq_true, Bool.and_eq_false_iff, Bool.or_eq_false_iff] at hc42
            have htx : isText c t = true := by simpa using hc42
            have hsd : send c t = (signs c t, 0) := by rw [send, if_neg (by simpa using hfc), if_neg h5, if_pos htx]
            refine r_skip ?_
            refine r_inBlock ?_
            refine r_seq ?_
            refine r_seq ?_
            refine r_region' ?_
            refine l_q (q_move (v := .int _ _) rfl rfl) ?_
            refine l_q (q_neq rfl rfl rfl) ?_
            refine l_nil ?_
            refine r_forget [(1, .slice _ _ _), (2, .pointer _), (6, .string _), (7, .int _ _), (8, .int _ _), (47, .bool _)] ⟨rfl, rfl, rfl, rfl, rfl, rfl, trivial⟩ (fun e50 => ?_)
            have hk51 : (!decide ((fault c) = 0)) = false := by simp [hfc]
            refine r_cond_f ((congrArg Value.bool hk51 : Value.bool _ = _)) ?_
            refine r_skip ?_
            refine r_seq ?_
            refine r_region' ?_
            refine l_q (q_move (v := .int _ _) rfl rfl) ?_
            refine l_q (q_eql rfl rfl rfl) ?_
            refine l_q (q_move (v := .bool _) rfl rfl) ?_
            have hk52 : (decide (((send c t).2) = 0)) = true := by rw [hsd]; simp
            refine l_part 60 rfl (fun _ => ?_) (fun hx => absurd (hk52.symm.trans hx) (by decide))
            refine l_q (q_move (v := .string _) rfl rfl) ?_
            refine l_q (q_load_agg (n := 1) Try.isAgg24 Try.sizeOf24 rfl ((hb1.cells' (cs' := [_]) 0 1 rfl)) rfl rfl) ?_
            refine l_q (q_move (v := .slice _ _ _) rfl rfl) ?_
            refine l_o (o_call Try.call25 rfl (refSigns_ret _ _ _ _ _ _ _ (hrow.below hB) (by omega) (ht.below hB) (by omega) hfc htx) rfl ?_)
            rintro _ w53 ⟨rfl, hE53⟩
            replace hB := below_ext hB hE53 hsz
            replace hb1 := hb1.ext hE53
            replace hrc12 := hrc12.ext hE53
            replace hrc15 := hrc15.ext hE53
            replace ho16_0 := own_ext ho16_0 hE53
            replace hsz := Nat.le_trans hsz hE53.size
            refine l_q (q_eql_str rfl rfl rfl) ?_
            refine l_q (q_pick_t (v := .bool _) rfl rfl rfl) ?_
            refine l_q (q_move (v := .bool _) rfl rfl) ?_
            have hk54 : (decide (((send c t).1) = (signs c t))) = true := by rw [hsd]; simp
            refine l_part 67 rfl (fun _ => ?_) (fun hx => absurd (hk54.symm.trans hx) (by decide))
            refine l_o (o_call Try.call18 rfl (awake_ret _) rfl ?_)
            rintro _ w55 ⟨rfl, hE55⟩
            replace hB := below_ext hB hE55 hsz
            replace hb1 := hb1.ext hE55
            replace hrc12 := hrc12.ext hE55
            replace hrc15 := hrc15.ext hE55
            replace ho16_0 := own_ext ho16_0 hE55
            replace hsz := Nat.le_trans hsz hE55.size
            refine l_q (q_pick_t (v := .bool _) rfl rfl rfl) ?_
            refine l_q (q_assign (v := .bool _) rfl rfl) ?_
            refine l_nil ?_
            refine r_forget [(4, .bool _)] ⟨rfl, trivial⟩ (fun e56 => ?_)
            refine r_ret_ (vs := [.bool _]) rfl Try.func3 rfl (.nil _) ⟨rfl, trivial⟩ ?_
            exact ⟨rfl, Ext.of_below hB⟩
end Go.Proofs.Ytkcbgpilfegofaa
