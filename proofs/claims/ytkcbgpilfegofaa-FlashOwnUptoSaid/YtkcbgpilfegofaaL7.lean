/- Contracts. -/
import Derived.Test.YtkcbgpilfegofaaE4
set_option linter.unusedVariables false
set_option linter.unusedSimpArgs false
namespace Go.Proofs.Ytkcbgpilfegofaa
open Go Go.RowKit Go.Gv Go.Fl

theorem tx_own {L : List SV} {t : List Int} (h : L.map (·.xs) = [t]) (ht : t.length ≤ 2097152) : ∀ s ∈ L, s.xs.length ≤ 2097152 := by
  intro s hs
  have hm : s.xs ∈ L.map (·.xs) := List.mem_map.2 ⟨s, hs, rfl⟩
  rw [h] at hm
  simp at hm; rw [hm]; exact ht


theorem flashOwn_ret (a : Option Addr) (cc : Nat) (c : List Sg) (ta : Option Addr) (tc : Nat) (t : List Int) (w : World) (hrow : Row w a c.length cc 1 (c.map vstr)) (hcn : c.length ≤ 2097152) (ht : Row w ta t.length tc 1 (t.map vint)) (htn : t.length ≤ 2097152) : Ret Try.prog 13 [.agg ⟨[.slice a c.length cc]⟩, .slice ta t.length tc] w (fun v w' => v = .bool true ∧ Ext w w') := by
  have hB := Below.refl w.heap.size w
  have hsz : w.heap.size ≤ w.heap.size := Nat.le_refl _
  refine ret_of_runs (args := [_, _]) Try.func13 rfl (Nat.le_of_ble_eq_true rfl) (by kernel_rfl) ?_
  refine r_seq ?_
  refine r_region' ?_
  refine l_o (o_box rfl rfl rfl ?_)
  intro b1 w1 hzl1 hzr1 _ hb1 hE1
  have hbs_b1 : w.heap.size ≤ b1 := Nat.le_trans hsz hzl1
  replace hB := below_ext hB hE1 hsz
  replace hsz := Nat.le_trans hsz hE1.size
  refine l_q (q_assign (v := .bool _) rfl rfl) ?_
  refine l_nil ?_
  refine r_forget [(1, .slice _ _ _), (2, .pointer _)] ⟨rfl, rfl, trivial⟩ (fun e2 => ?_)
  refine r_seq ?_
  refine r_seq ?_
  refine r_region' ?_
  refine l_q (q_load_agg (n := 1) Try.isAgg24 Try.sizeOf24 rfl ((hb1.cells' (cs' := [_]) 0 1 rfl)) rfl rfl) ?_
  refine l_q (q_move (v := .slice _ _ _) rfl rfl) ?_
  refine l_o (o_call Try.call41 rfl (ready_ret _ _ _ _ _ _ _ (hrow.below hB) (by omega) (ht.below hB) (by omega)) rfl ?_)
  rintro _ w3 ⟨rfl, hE3⟩
  replace hB := below_ext hB hE3 hsz
  replace hb1 := hb1.ext hE3
  replace hsz := Nat.le_trans hsz hE3.size
  refine l_q (q_not rfl rfl) ?_
  refine l_nil ?_
  refine r_forget [(1, .slice _ _ _), (2, .pointer _), (10, .bool _)] ⟨rfl, rfl, rfl, trivial⟩ (fun e4 => ?_)
  refine r_cond rfl (fun hc5 => ?_) (fun hc5 => ?_)
  · skip
    try simp only [decide_eq_true_eq, decide_eq_false_iff_not, Bool.not_eq_true', Bool.not_eq_false', Bool.not_not, Bool.not_true, Bool.not_false, Bool.not_eq_true, Bool.not_eq_false, Int.not_lt, Int.not_le, Bool.and_eq_true, Bool.or_eq_true, Bool.and_eq_false_iff, Bool.or_eq_false_iff] at hc5
    refine r_seq ?_
    refine r_region' ?_
    refine l_o (o_call Try.call18 rfl (awake_ret _) rfl ?_)
    rintro _ w6 ⟨rfl, hE6⟩
    replace hB := below_ext hB hE6 hsz
    replace hb1 := hb1.ext hE6
    replace hsz := Nat.le_trans hsz hE6.size
    refine l_q (q_assign (v := .bool _) rfl rfl) ?_
    refine l_nil ?_
    refine r_forget [(4, .bool _)] ⟨rfl, trivial⟩ (fun e7 => ?_)
    refine r_ret_ (vs := [.bool _]) rfl Try.func13 rfl (.nil _) ⟨rfl, trivial⟩ ?_
    exact ⟨rfl, Ext.of_below hB⟩
  · skip
    try simp only [decide_eq_true_eq, decide_eq_false_iff_not, Bool.not_eq_true', Bool.not_eq_false', Bool.not_not, Bool.not_true, Bool.not_false, Bool.not_eq_true, Bool.not_eq_false, Int.not_lt, Int.not_le, Bool.and_eq_true, Bool.or_eq_true, Bool.and_eq_false_iff, Bool.or_eq_false_iff] at hc5
    have hrd : readyB c t = true := by simpa using hc5
    obtain ⟨hcl, hfc, ht5, htx⟩ := ready_all hrd
    have hsl := signs_len hfc htx
    have hte := txErr_zero (er := 0) (le := 5) hfc (chk_signs hfc htx ht5) (by decide)
    have hto := own_texts hfc htx ht5
    refine r_skip ?_
    refine r_seq ?_
    refine r_draw ext_refl' ext_trans' [0, 2, 3, 1, 4, 5, 6, 7, 8, 9, 10] [1, 4, 5] 6 (by kernel_rfl) (by kernel_rfl) ?_
    intro w8 _ hE8
    replace hB := below_ext hB hE8 hsz
    replace hb1 := hb1.ext hE8
    replace hsz := Nat.le_trans hsz hE8.size
    refine m_q rfl rfl (fun w' hC' => q_load_agg (n := 1) Try.isAgg24 Try.sizeOf24 rfl (((hb1.cells' (cs' := [_]) 0 1 rfl).ext hC')) rfl rfl) ?_
    refine m_q rfl rfl (fun w' hC' => q_load_agg (n := 1) Try.isAgg24 Try.sizeOf24 rfl (((hb1.cells' (cs' := [_]) 0 1 rfl).ext hC')) rfl rfl) ?_
    refine m_q rfl rfl (fun w' hC' => q_move (v := .slice _ _ _) rfl rfl) ?_
    refine m_o rfl rfl (o_call Try.call20 rfl (code_ret _ _ c _ (hrow.below hB) (by omega)) rfl ?_)
    rintro _ w9 ⟨ca9, cc9, rfl, hrc9, hE9⟩
    refine ⟨hE9, ?_⟩
    replace hB := below_ext hB hE9 hsz
    replace hb1 := hb1.ext hE9
    replace hsz := Nat.le_trans hsz hE9.size
    refine m_o rfl rfl (o_call Try.call25 rfl (refSigns_ret _ _ _ _ _ _ _ (hrow.below hB) (by omega) (ht.below hB) (by omega) hfc htx) rfl ?_)
    rintro _ w10 ⟨rfl, hE10⟩
    refine ⟨hE10, ?_⟩
    replace hB := below_ext hB hE10 hsz
    replace hb1 := hb1.ext hE10
    replace hrc9 := hrc9.ext hE10
    replace hsz := Nat.le_trans hsz hE10.size
    refine m_o rfl rfl (o_call Try.call32 rfl (texts2_ret _ _ c (signs c t) 0 5 _ hrc9 (by omega) hcl (by omega)) rfl ?_)
    have hszp11 : w.heap.size ≤ w10.heap.size := hsz
    rintro _ w11 ⟨oa11, oc11, L11, rfl, ho11, hos11, hm11, hE11⟩
    replace ho11 := own_mono ho11 (show w.heap.size ≤ _ by omega)
    refine ⟨hE11, ?_⟩
    replace hB := below_ext hB hE11 hsz
    replace hb1 := hb1.ext hE11
    replace hrc9 := hrc9.ext hE11
    replace hsz := Nat.le_trans hsz hE11.size
    have hm := (hm11).trans hto
    refine m_q rfl rfl (fun w' hC' => q_move (v := .tuple _) rfl rfl) ?_
    refine m_q rfl rfl (fun w' hC' => q_extract (vs := [_, _]) (v := .slice _ _ _) rfl rfl rfl) ?_
    refine m_q rfl rfl (fun w' hC' => q_extract (vs := [_, _]) (v := .int _ _) rfl rfl rfl) ?_
    refine m_q rfl rfl (fun w' hC' => q_assign (v := .slice _ _ _) rfl rfl) ?_
    refine m_q rfl rfl (fun w' hC' => q_assign (v := .int _ _) rfl rfl) ?_
    refine m_nil ?_
    refine r_forget [(1, .slice _ _ _), (5, .slice _ _ _), (6, .int _ _)] ⟨rfl, rfl, rfl, trivial⟩ (fun e12 => ?_)
    refine r_seq ?_
    refine r_region' ?_
    refine l_q (q_move (v := .int _ _) rfl rfl) ?_
    refine l_q (q_eql rfl rfl rfl) ?_
    refine l_q (q_move (v := .bool _) rfl rfl) ?_
    have hk13 : (decide ((txErr c (signs c t) 0 5) = 0)) = true := by rw [hte]; rfl
    refine l_part 23 rfl (fun _ => ?_) (fun hx => absurd (hk13.symm.trans hx) (by decide))
    refine l_q (q_move (v := .slice _ _ _) rfl rfl) ?_
    refine l_q (q_move (v := .slice _ _ _) rfl rfl) ?_
    refine l_o (o_buildSlice (el := 25) (cs := [.slice ta t.length tc]) Try.underlying48 el25 (by decide) (by kernel_rfl) rfl (by decide) rfl ?_)
    intro b14 w14 hzl14 hzr14 _ hb14 hE14 ho14
    have hbs_b14 : w.heap.size ≤ b14 := Nat.le_trans hsz hzl14
    replace hB := below_ext hB hE14 hsz
    replace hb1 := hb1.ext hE14
    replace hrc9 := hrc9.ext hE14
    replace ho11 := own_ext ho11 hE14
    replace hos11 := hos11.ext hE14
    replace hsz := Nat.le_trans hsz hE14.size
    refine l_o (o_call Try.call34 rfl (lsame_ret _ _ L11 _ _ [⟨ta, tc, t⟩] _ (Row.of_owns ho11) hos11.rows (by have := congrArg List.length hm; rw [List.length_map] at this; rw [this]; simp) (tx_own hm (by omega)) (Row.of_owns ho14) ((RowsI.nil _).snoc (ht.below hB)) (by simp) (by simp; omega)) rfl ?_)
    rintro _ w15 ⟨rfl, hE15⟩
    replace hB := below_ext hB hE15 hsz
    replace hb1 := hb1.ext hE15
    replace hrc9 := hrc9.ext hE15
    replace ho11 := own_ext ho11 hE15
    replace hos11 := hos11.ext hE15
    replace ho14 := own_ext ho14 hE15
    replace hsz := Nat.le_trans hsz hE15.size
    refine l_q (q_pick_t (v := .bool _) rfl rfl rfl) ?_
    refine l_q (q_move (v := .bool _) rfl rfl) ?_
    have hk16 : (decide ((L11).map (·.xs) = [t])) = true := by rw [hm]; simp
    refine l_part 29 rfl (fun _ => ?_) (fun hx => absurd (hk16.symm.trans hx) (by decide))
    refine l_o (o_call Try.call18 rfl (awake_ret _) rfl ?_)
    rintro _ w17 ⟨rfl, hE17⟩
    replace hB := below_ext hB hE17 hsz
    replace hb1 := hb1.ext hE17
    replace hrc9 := hrc9.ext hE17
    replace ho11 := own_ext ho11 hE17
    replace hos11 := hos11.ext hE17
    replace ho14 := own_ext ho14 hE17
    replace hsz := Nat.le_trans hsz hE17.size
    refine l_q (q_pick_t (v := .bool _) rfl rfl rfl) ?_
    refine l_q (q_assign (v := .bool _) rfl rfl) ?_
    refine l_nil ?_
    refine r_forget [(4, .bool _)] ⟨rfl, trivial⟩ (fun e18 => ?_)
    refine r_ret_ (vs := [.bool _]) rfl Try.func13 rfl (.nil _) ⟨rfl, trivial⟩ ?_
    exact ⟨rfl, Ext.of_below hB⟩
end Go.Proofs.Ytkcbgpilfegofaa
