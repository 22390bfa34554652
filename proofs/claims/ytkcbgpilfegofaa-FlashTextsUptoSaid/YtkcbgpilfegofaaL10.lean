/- Contracts. -/
import Derived.Test.YtkcbgpilfegofaaF22
set_option linter.unusedVariables false
set_option linter.unusedSimpArgs false
namespace Go.Proofs.Ytkcbgpilfegofaa
open Go Go.RowKit Go.Gv Go.Fl

theorem thin_le {c : List Sg} {s : Sg} (h : thin c s = true) : ∀ s ∈ c, s.length ≤ 2097152 := by
  unfold thin at h
  simp only [Bool.and_eq_true, List.all_eq_true, decide_eq_true_eq] at h
  intro s hs
  have := h.1.2 s hs
  omega


theorem flashTexts_ret (a : Option Addr) (cc : Nat) (c : List Sg) (rd : Sg) (er le : Int) (w : World) (hrow : Row w a c.length cc 1 (c.map vstr)) (hcn : c.length ≤ 2097152) (hrd : rd.length ≤ 2097152) (her : -9223372036854775808 ≤ er ∧ er ≤ 9223372036854775807) (hle : -9223372036854775808 ≤ le ∧ le ≤ 9223372036854775807) : Ret Try.prog 5 [.agg ⟨[.slice a c.length cc]⟩, vstr rd, vint er, vint le] w (fun v w' => v = .bool true ∧ Ext w w') := by
  have hB := Below.refl w.heap.size w
  have hsz : w.heap.size ≤ w.heap.size := Nat.le_refl _
  refine ret_of_runs (args := [_, _, _, _]) Try.func5 rfl (Nat.le_of_ble_eq_true rfl) (by kernel_rfl) ?_
  refine r_seq ?_
  refine r_region' ?_
  refine l_o (o_box rfl rfl rfl ?_)
  intro b1 w1 hzl1 hzr1 _ hb1 hE1
  have hbs_b1 : w.heap.size ≤ b1 := Nat.le_trans hsz hzl1
  replace hB := below_ext hB hE1 hsz
  replace hsz := Nat.le_trans hsz hE1.size
  refine l_q (q_assign (v := .bool _) rfl rfl) ?_
  refine l_nil ?_
  refine r_forget [(1, .string _), (2, .int _ _), (3, .int _ _), (4, .pointer _)] ⟨rfl, rfl, rfl, rfl, trivial⟩ (fun e2 => ?_)
  refine r_seq ?_
  refine r_seq ?_
  refine r_region' ?_
  refine l_q (q_load_agg (n := 1) Try.isAgg24 Try.sizeOf24 rfl ((hb1.cells' (cs' := [_]) 0 1 rfl)) rfl rfl) ?_
  refine l_q (q_move (v := .string _) rfl rfl) ?_
  refine l_o (o_call Try.call17 rfl (thin_ret _ _ _ _ _ (hrow.below hB) (by omega) (by first | omega | simp)) rfl ?_)
  rintro _ w3 ⟨rfl, hE3⟩
  replace hB := below_ext hB hE3 hsz
  replace hb1 := hb1.ext hE3
  replace hsz := Nat.le_trans hsz hE3.size
  refine l_q (q_not rfl rfl) ?_
  refine l_q (q_move (v := .bool _) rfl rfl) ?_
  refine l_part 16 rfl (fun hc4 => ?_) (fun hc4 => ?_)
  · skip
    try simp only [decide_eq_true_eq, decide_eq_false_iff_not, Bool.not_eq_true', Bool.not_eq_false', Bool.not_not, Bool.not_true, Bool.not_false, Bool.not_eq_true, Bool.not_eq_false, Int.not_lt, Int.not_le, Bool.and_eq_true, Bool.or_eq_true, Bool.and_eq_false_iff, Bool.or_eq_false_iff] at hc4
    refine l_q (q_skip rfl) ?_
    refine l_q (q_skip rfl) ?_
    refine l_q (q_skip rfl) ?_
    refine l_q (q_skip rfl) ?_
    refine l_q (q_skip rfl) ?_
    refine l_q (q_skip rfl) ?_
    refine l_q (q_skip rfl) ?_
    refine l_q (q_skip rfl) ?_
    refine l_q (q_skip rfl) ?_
    refine l_q (q_skip rfl) ?_
    refine l_q (q_skip rfl) ?_
    refine l_q (q_skip rfl) ?_
    refine l_q (q_skip rfl) ?_
    refine l_q (q_skip rfl) ?_
    refine l_q (q_skip rfl) ?_
    refine l_q (q_skip rfl) ?_
    refine l_q (q_skip rfl) ?_
    refine l_q (q_pick_t (v := .bool _) rfl rfl rfl) ?_
    refine l_nil ?_
    refine r_forget [(1, .string _), (2, .int _ _), (3, .int _ _), (4, .pointer _), (34, .bool _)] ⟨rfl, rfl, rfl, rfl, rfl, trivial⟩ (fun e5 => ?_)
    refine r_cond_t rfl ?_
    refine r_seq ?_
    refine r_region' ?_
    refine l_o (o_call Try.call18 rfl (awake_ret _) rfl ?_)
    rintro _ w6 ⟨rfl, hE6⟩
    replace hB := below_ext hB hE6 hsz
    replace hb1 := hb1.ext hE6
    replace hsz := Nat.le_trans hsz hE6.size
    refine l_q (q_assign (v := .bool _) rfl rfl) ?_
    refine l_nil ?_
    refine r_forget [(8, .bool _)] ⟨rfl, trivial⟩ (fun e7 => ?_)
    refine r_ret_ (vs := [.bool _]) rfl Try.func5 rfl (.nil _) ⟨rfl, trivial⟩ ?_
    exact ⟨rfl, Ext.of_below hB⟩
  · skip
    try simp only [decide_eq_true_eq, decide_eq_false_iff_not, Bool.not_eq_true', Bool.not_eq_false', Bool.not_not, Bool.not_true, Bool.not_false, Bool.not_eq_true, Bool.not_eq_false, Int.not_lt, Int.not_le, Bool.and_eq_true, Bool.or_eq_true, Bool.and_eq_false_iff, Bool.or_eq_false_iff] at hc4
    have hth : thin c rd = true := by simpa using hc4
    have hcl := thin_le hth
    refine l_q (q_load_agg (n := 1) Try.isAgg24 Try.sizeOf24 rfl ((hb1.cells' (cs' := [_]) 0 1 rfl)) rfl rfl) ?_
    refine l_o (o_call Try.call23 rfl (lfault_ret _ _ _ _ (hrow.below hB) (by omega)) rfl ?_)
    rintro _ w8 ⟨rfl, hE8⟩
    replace hB := below_ext hB hE8 hsz
    replace hb1 := hb1.ext hE8
    replace hsz := Nat.le_trans hsz hE8.size
    refine l_q (q_eql rfl rfl rfl) ?_
    refine l_q (q_move (v := .bool _) rfl rfl) ?_
    refine l_part 20 rfl (fun hc9 => ?_) (fun hc9 => ?_)
    · skip
      try simp only [decide_eq_true_eq, decide_eq_false_iff_not, Bool.not_eq_true', Bool.not_eq_false', Bool.not_not, Bool.not_true, Bool.not_false, Bool.not_eq_true, Bool.not_eq_false, Int.not_lt, Int.not_le, Bool.and_eq_true, Bool.or_eq_true, Bool.and_eq_false_iff, Bool.or_eq_false_iff] at hc9
      have hfc : fault c = 0 := by simpa using hc9
      refine l_q (q_fieldAddr (o' := 0) rfl fld24_0 rfl) ?_
      refine l_q (q_load Try.isAgg22 rfl ((hb1.has (o := 0) rfl)) rfl) ?_
      refine l_q (q_len rfl Try.underlying22 rfl rfl) ?_
      refine l_q (q_gtr rfl rfl rfl) ?_
      refine l_q (q_move (v := .bool _) rfl rfl) ?_
      refine l_part 25 rfl (fun hc10 => ?_) (fun hc10 => ?_)
      · skip
        try simp only [decide_eq_true_eq, decide_eq_false_iff_not, Bool.not_eq_true', Bool.not_eq_false', Bool.not_not, Bool.not_true, Bool.not_false, Bool.not_eq_true, Bool.not_eq_false, Int.not_lt, Int.not_le, Bool.and_eq_true, Bool.or_eq_true, Bool.and_eq_false_iff, Bool.or_eq_false_iff] at hc10
        refine l_q (q_skip rfl) ?_
        refine l_q (q_skip rfl) ?_
        refine l_q (q_skip rfl) ?_
        refine l_q (q_skip rfl) ?_
        refine l_q (q_skip rfl) ?_
        refine l_q (q_skip rfl) ?_
        refine l_q (q_pick_t (v := .bool _) rfl rfl rfl) ?_
        refine l_q (q_pick_t (v := .bool _) rfl rfl rfl) ?_
        refine l_q (q_pick_f (v := .bool _) rfl rfl rfl) ?_
        refine l_nil ?_
        refine r_forget [(1, .string _), (2, .int _ _), (3, .int _ _), (4, .pointer _), (34, .bool _)] ⟨rfl, rfl, rfl, rfl, rfl, trivial⟩ (fun e11 => ?_)
        refine r_cond_t rfl ?_
        refine r_seq ?_
        refine r_region' ?_
        refine l_o (o_call Try.call18 rfl (awake_ret _) rfl ?_)
        rintro _ w12 ⟨rfl, hE12⟩
        replace hB := below_ext hB hE12 hsz
        replace hb1 := hb1.ext hE12
        replace hsz := Nat.le_trans hsz hE12.size
        refine l_q (q_assign (v := .bool _) rfl rfl) ?_
        refine l_nil ?_
        refine r_forget [(8, .bool _)] ⟨rfl, trivial⟩ (fun e13 => ?_)
        refine r_ret_ (vs := [.bool _]) rfl Try.func5 rfl (.nil _) ⟨rfl, trivial⟩ ?_
        exact ⟨rfl, Ext.of_below hB⟩
      · skip
        try simp only [decide_eq_true_eq, decide_eq_false_iff_not, Bool.not_eq_true', Bool.not_eq_false', Bool.not_not, Bool.not_true, Bool.not_false, Bool.not_eq_true, Bool.not_eq_false, Int.not_lt, Int.not_le, Bool.and_eq_true, Bool.or_eq_true, Bool.and_eq_false_iff, Bool.or_eq_false_iff] at hc10
        have hc3 : c.length ≤ 3 := by first | omega | (have h9 := hc10; simp at h9; omega)
        refine l_q (q_move (v := .int _ _) rfl rfl) ?_
        refine l_q (q_gtr rfl rfl rfl) ?_
        refine l_q (q_move (v := .bool _) rfl rfl) ?_
        refine l_part 28 rfl (fun hc14 => ?_) (fun hc14 => ?_)
        · skip
          try simp only [decide_eq_true_eq, decide_eq_false_iff_not, Bool.not_eq_true', Bool.not_eq_false', Bool.not_not, Bool.not_true, Bool.not_false, Bool.not_eq_true, Bool.not_eq_false, Int.not_lt, Int.not_le, Bool.and_eq_true, Bool.or_eq_true, Bool.and_eq_false_iff, Bool.or_eq_false_iff] at hc14
          have hle3 : 3 < le := by first | omega | (have h9 := hc14; simp at h9; omega)
          refine l_q (q_move (v := .int _ _) rfl rfl) ?_
          refine l_q (q_lss rfl rfl rfl) ?_
          refine l_q (q_pick_t (v := .bool _) rfl rfl rfl) ?_
          refine l_q (q_pick_f (v := .bool _) rfl rfl rfl) ?_
          refine l_q (q_pick_t (v := .bool _) rfl rfl rfl) ?_
          refine l_q (q_pick_f (v := .bool _) rfl rfl rfl) ?_
          refine l_nil ?_
          refine r_forget [(1, .string _), (2, .int _ _), (3, .int _ _), (4, .pointer _), (34, .bool _)] ⟨rfl, rfl, rfl, rfl, rfl, trivial⟩ (fun e15 => ?_)
          refine r_cond rfl (fun hc16 => ?_) (fun hc16 => ?_)
          · skip
            try simp only [decide_eq_true_eq, decide_eq_false_iff_not, Bool.not_eq_true', Bool.not_eq_false', Bool.not_not, Bool.not_true, Bool.not_false, Bool.not_eq_true, Bool.not_eq_false, Int.not_lt, Int.not_le, Bool.and_eq_true, Bool.or_eq_true, Bool.and_eq_false_iff, Bool.or_eq_false_iff] at hc16
            refine r_seq ?_
            refine r_region' ?_
            refine l_o (o_call Try.call18 rfl (awake_ret _) rfl ?_)
            rintro _ w17 ⟨rfl, hE17⟩
            replace hB := below_ext hB hE17 hsz
            replace hb1 := hb1.ext hE17
            replace hsz := Nat.le_trans hsz hE17.size
            refine l_q (q_assign (v := .bool _) rfl rfl) ?_
            refine l_nil ?_
            refine r_forget [(8, .bool _)] ⟨rfl, trivial⟩ (fun e18 => ?_)
            refine r_ret_ (vs := [.bool _]) rfl Try.func5 rfl (.nil _) ⟨rfl, trivial⟩ ?_
            exact ⟨rfl, Ext.of_below hB⟩
          · skip
            try simp only [decide_eq_true_eq, decide_eq_false_iff_not, Bool.not_eq_true', Bool.not_eq_false', Bool.not_not, Bool.not_true, Bool.not_false, Bool.not_eq_true, Bool.not_eq_false, Int.not_lt, Int.not_le, Bool.and_eq_true, Bool.or_eq_true, Bool.and_eq_false_iff, Bool.or_eq_false_iff] at hc16
            have hle6 : 6 ≤ le := by omega
            refine r_skip ?_
            refine r_seq ?_
            refine r_region' ?_
            refine l_q (q_load_agg (n := 1) Try.isAgg24 Try.sizeOf24 rfl ((hb1.cells' (cs' := [_]) 0 1 rfl)) rfl rfl) ?_
            refine l_o (o_call Try.call20 rfl (code_ret _ _ c _ (hrow.below hB) (by omega)) rfl ?_)
            rintro _ w19 ⟨ca19, cc19, rfl, hrc19, hE19⟩
            replace hB := below_ext hB hE19 hsz
            replace hb1 := hb1.ext hE19
            replace hsz := Nat.le_trans hsz hE19.size
            refine l_q (q_move (v := .string _) rfl rfl) ?_
            refine l_q (q_move (v := .int _ _) rfl rfl) ?_
            refine l_q (q_move (v := .int _ _) rfl rfl) ?_
            refine l_o (o_call Try.call32 rfl (texts2_ret _ _ c rd er le _ hrc19 hcn hcl hrd) rfl ?_)
            have hszp20 : w.heap.size ≤ w19.heap.size := hsz
            rintro _ w20 ⟨oa20, oc20, L20, rfl, ho20, hos20, hm20, hE20⟩
            replace ho20 := own_mono ho20 (show w.heap.size ≤ _ by omega)
            replace hB := below_ext hB hE20 hsz
            replace hb1 := hb1.ext hE20
            replace hrc19 := hrc19.ext hE20
            replace hsz := Nat.le_trans hsz hE20.size
            have hmt := hm20
            refine l_q (q_move (v := .tuple _) rfl rfl) ?_
            refine l_q (q_extract (vs := [_, _]) (v := .slice _ _ _) rfl rfl rfl) ?_
            refine l_q (q_extract (vs := [_, _]) (v := .int _ _) rfl rfl rfl) ?_
            refine l_q (q_assign (v := .slice _ _ _) rfl rfl) ?_
            refine l_q (q_assign (v := .int _ _) rfl rfl) ?_
            refine l_nil ?_
            refine r_forget [(1, .string _), (2, .int _ _), (3, .int _ _), (4, .pointer _), (9, .slice _ _ _), (10, .int _ _)] ⟨rfl, rfl, rfl, rfl, rfl, rfl, trivial⟩ (fun e21 => ?_)
            refine r_seq ?_
            refine r_region' ?_
            refine l_q (q_load_agg (n := 1) Try.isAgg24 Try.sizeOf24 rfl ((hb1.cells' (cs' := [_]) 0 1 rfl)) rfl rfl) ?_
            refine l_o (o_call Try.call23 rfl (lfault_ret _ _ _ _ (hrow.below hB) (by omega)) rfl ?_)
            rintro _ w22 ⟨rfl, hE22⟩
            replace hB := below_ext hB hE22 hsz
            replace hb1 := hb1.ext hE22
            replace hrc19 := hrc19.ext hE22
            replace ho20 := own_ext ho20 hE22
            replace hos20 := hos20.ext hE22
            replace hsz := Nat.le_trans hsz hE22.size
            refine l_q (q_assign (v := .int _ _) rfl rfl) ?_
            refine l_nil ?_
            refine r_forget [(1, .string _), (2, .int _ _), (3, .int _ _), (4, .pointer _), (9, .slice _ _ _), (10, .int _ _), (11, .int _ _)] ⟨rfl, rfl, rfl, rfl, rfl, rfl, rfl, trivial⟩ (fun e23 => ?_)
            refine r_seq ?_
            refine r_seq ?_
            refine r_region' ?_
            refine l_q (q_move (v := .int _ _) rfl rfl) ?_
            refine l_q (q_eql rfl rfl rfl) ?_
            refine l_nil ?_
            refine r_forget [(1, .string _), (2, .int _ _), (3, .int _ _), (4, .pointer _), (9, .slice _ _ _), (10, .int _ _), (11, .int _ _), (48, .bool _)] ⟨rfl, rfl, rfl, rfl, rfl, rfl, rfl, rfl, trivial⟩ (fun e24 => ?_)
            have hk25 : (decide ((fault c) = 0)) = true := by simp [hfc]
            refine r_cond_t ((congrArg Value.bool hk25 : Value.bool _ = _)) ?_
            refine r_region' ?_
            refine l_q (q_move (v := .string _) rfl rfl) ?_
            refine l_o (o_call Try.call28 rfl (signed_ret rd [] _ hrd (by decide)) rfl ?_)
            rintro _ w26 ⟨rfl, rfl⟩
            refine l_q (q_assign (v := .int _ _) rfl rfl) ?_
            refine l_nil ?_
            refine r_forget [(1, .string _), (2, .int _ _), (3, .int _ _), (4, .pointer _), (9, .slice _ _ _), (10, .int _ _), (11, .int _ _)] ⟨rfl, rfl, rfl, rfl, rfl, rfl, rfl, trivial⟩ (fun e27 => ?_)
            refine r_seq ?_
            refine r_seq ?_
            refine r_region' ?_
            refine l_q (q_move (v := .int _ _) rfl rfl) ?_
            refine l_q (q_eql rfl rfl rfl) ?_
            refine l_q (q_move (v := .bool _) rfl rfl) ?_
            refine l_part 53 rfl (fun hc28 => ?_) (fun hc28 => ?_)
            · skip
              try simp only [decide_eq_true_eq, decide_eq_false_iff_not, Bool.not_eq_true', Bool.not_eq_false', Bool.not_not, Bool.not_true, Bool.not_false, Bool.not_eq_true, Bool.not_eq_false, Int.not_lt, Int.not_le, Bool.and_eq_true, Bool.or_eq_true, Bool.and_eq_false_iff, Bool.or_eq_false_iff] at hc28
              have hsf : signsFault rd [] = 0 := by simpa using hc28
              have hck : chk [rd] = 0 := by rw [chk_sf]; exact hsf
              have hrl : rd.length ≤ 40 := chk_one hck
              refine l_q (q_move (v := .int _ _) rfl rfl) ?_
              refine l_o (o_call Try.call33 rfl (in_ret _ _ _ _) rfl ?_)
              rintro _ w29 ⟨rfl, rfl⟩
              refine l_q (q_not rfl rfl) ?_
              refine l_q (q_move (v := .bool _) rfl rfl) ?_
              refine l_part 57 rfl (fun hc30 => ?_) (fun hc30 => ?_)
              · skip
                try simp only [decide_eq_true_eq, decide_eq_false_iff_not, Bool.not_eq_true', Bool.not_eq_false', Bool.not_not, Bool.not_true, Bool.not_false, Bool.not_eq_true, Bool.not_eq_false, Int.not_lt, Int.not_le, Bool.and_eq_true, Bool.or_eq_true, Bool.and_eq_false_iff, Bool.or_eq_false_iff] at hc30
                have hbad : ¬ ((0 ≤ er ∧ er ≤ 3) ∧ 0 ≤ le ∧ le ≤ 5) := by first | omega | (have h9 := hc30; simp at h9; omega)
                have hte := tx_err3 hfc hck hbad
                have htl : txL c rd er le = [] := txL_bad (by rw [hte]; decide)
                refine l_q (q_skip rfl) ?_
                refine l_q (q_skip rfl) ?_
                refine l_q (q_skip rfl) ?_
                refine l_q (q_pick_t (v := .bool _) rfl rfl rfl) ?_
                refine l_q (q_pick_t (v := .bool _) rfl rfl rfl) ?_
                refine l_nil ?_
                refine r_forget [(1, .string _), (2, .int _ _), (3, .int _ _), (4, .pointer _), (9, .slice _ _ _), (10, .int _ _), (11, .int _ _), (62, .bool _)] ⟨rfl, rfl, rfl, rfl, rfl, rfl, rfl, rfl, trivial⟩ (fun e31 => ?_)
                refine r_cond_t rfl ?_
                refine r_region' ?_
                refine l_q (q_assign (v := .int _ _) rfl rfl) ?_
                refine l_nil ?_
                refine r_forget [(1, .string _), (2, .int _ _), (3, .int _ _), (4, .pointer _), (9, .slice _ _ _), (10, .int _ _), (11, .int _ _)] ⟨rfl, rfl, rfl, rfl, rfl, rfl, rfl, trivial⟩ (fun e32 => ?_)
                refine r_seq ?_
                refine r_seq ?_
                refine r_region' ?_
                refine l_q (q_move (v := .int _ _) rfl rfl) ?_
                refine l_q (q_neq rfl rfl rfl) ?_
                refine l_nil ?_
                refine r_forget [(1, .string _), (2, .int _ _), (3, .int _ _), (4, .pointer _), (9, .slice _ _ _), (10, .int _ _), (11, .int _ _), (64, .bool _)] ⟨rfl, rfl, rfl, rfl, rfl, rfl, rfl, rfl, trivial⟩ (fun e33 => ?_)
                have hk34 : (!decide (2 = 0)) = true := by decide
                refine r_cond_t ((congrArg Value.bool hk34 : Value.bool _ = _)) ?_
                refine r_seq ?_
                refine r_region' ?_
                refine l_q (q_move (v := .int _ _) rfl rfl) ?_
                refine l_q (q_move (v := .int _ _) rfl rfl) ?_
                refine l_q (q_eql rfl rfl rfl) ?_
                refine l_q (q_move (v := .bool _) rfl rfl) ?_
                have hk35 : (decide ((txErr c rd er le) = 2)) = true := by rw [hte]; simp
                refine l_part 68 rfl (fun _ => ?_) (fun hx => absurd (hk35.symm.trans hx) (by decide))
                refine l_q (q_move (v := .slice _ _ _) rfl rfl) ?_
                refine l_q (q_len rfl Try.underlying48 rfl rfl) ?_
                refine l_q (q_eql rfl rfl rfl) ?_
                refine l_q (q_pick_t (v := .bool _) rfl rfl rfl) ?_
                refine l_q (q_move (v := .bool _) rfl rfl) ?_
                have hk36 : (decide (((L20).length : Int) = 0)) = true := by have h0 := congrArg List.length hmt; rw [htl, List.length_map] at h0; simp at h0; simp [h0]
                refine l_part 73 rfl (fun _ => ?_) (fun hx => absurd (hk36.symm.trans hx) (by decide))
                refine l_o (o_call Try.call18 rfl (awake_ret _) rfl ?_)
                rintro _ w37 ⟨rfl, hE37⟩
                replace hB := below_ext hB hE37 hsz
                replace hb1 := hb1.ext hE37
                replace hrc19 := hrc19.ext hE37
                replace ho20 := own_ext ho20 hE37
                replace hos20 := hos20.ext hE37
                replace hsz := Nat.le_trans hsz hE37.size
                refine l_q (q_pick_t (v := .bool _) rfl rfl rfl) ?_
                refine l_q (q_assign (v := .bool _) rfl rfl) ?_
                refine l_nil ?_
                refine r_forget [(8, .bool _)] ⟨rfl, trivial⟩ (fun e38 => ?_)
                refine r_ret_ (vs := [.bool _]) rfl Try.func5 rfl (.nil _) ⟨rfl, trivial⟩ ?_
                exact ⟨rfl, Ext.of_below hB⟩
              · skip
                try simp only [decide_eq_true_eq, decide_eq_false_iff_not, Bool.not_eq_true', Bool.not_eq_false', Bool.not_not, Bool.not_true, Bool.not_false, Bool.not_eq_true, Bool.not_eq_false, Int.not_lt, Int.not_le, Bool.and_eq_true, Bool.or_eq_true, Bool.and_eq_false_iff, Bool.or_eq_false_iff] at hc30
                have her3 : 0 ≤ er ∧ er ≤ 3 := by first | omega | (have h9 := hc30; simp at h9; omega)
                refine l_q (q_move (v := .int _ _) rfl rfl) ?_
                refine l_o (o_call Try.call33 rfl (in_ret _ _ _ _) rfl ?_)
                rintro _ w39 ⟨rfl, rfl⟩
                refine l_q (q_not rfl rfl) ?_
                refine l_q (q_pick_f (v := .bool _) rfl rfl rfl) ?_
                refine l_q (q_pick_t (v := .bool _) rfl rfl rfl) ?_
                refine l_nil ?_
                refine r_forget [(1, .string _), (2, .int _ _), (3, .int _ _), (4, .pointer _), (9, .slice _ _ _), (10, .int _ _), (11, .int _ _), (62, .bool _)] ⟨rfl, rfl, rfl, rfl, rfl, rfl, rfl, rfl, trivial⟩ (fun e40 => ?_)
                refine r_cond rfl (fun hc41 => ?_) (fun hc41 => ?_)
                · skip
                  try simp only [decide_eq_true_eq, decide_eq_false_iff_not, Bool.not_eq_true', Bool.not_eq_false', Bool.not_not, Bool.not_true, Bool.not_false, Bool.not_eq_true, Bool.not_eq_false, Int.not_lt, Int.not_le, Bool.and_eq_true, Bool.or_eq_true, Bool.and_eq_false_iff, Bool.or_eq_false_iff] at hc41
                  have hbad : ¬ ((0 ≤ er ∧ er ≤ 3) ∧ 0 ≤ le ∧ le ≤ 5) := by first | omega | (have h9 := hc41; simp at h9; omega)
                  have hte := tx_err3 hfc hck hbad
                  have htl : txL c rd er le = [] := txL_bad (by rw [hte]; decide)
                  refine r_region' ?_
                  refine l_q (q_assign (v := .int _ _) rfl rfl) ?_
                  refine l_nil ?_
                  refine r_forget [(1, .string _), (2, .int _ _), (3, .int _ _), (4, .pointer _), (9, .slice _ _ _), (10, .int _ _), (11, .int _ _)] ⟨rfl, rfl, rfl, rfl, rfl, rfl, rfl, trivial⟩ (fun e42 => ?_)
                  refine r_seq ?_
                  refine r_seq ?_
                  refine r_region' ?_
                  refine l_q (q_move (v := .int _ _) rfl rfl) ?_
                  refine l_q (q_neq rfl rfl rfl) ?_
                  refine l_nil ?_
                  refine r_forget [(1, .string _), (2, .int _ _), (3, .int _ _), (4, .pointer _), (9, .slice _ _ _), (10, .int _ _), (11, .int _ _), (64, .bool _)] ⟨rfl, rfl, rfl, rfl, rfl, rfl, rfl, rfl, trivial⟩ (fun e43 => ?_)
                  have hk44 : (!decide (2 = 0)) = true := by decide
                  refine r_cond_t ((congrArg Value.bool hk44 : Value.bool _ = _)) ?_
                  refine r_seq ?_
                  refine r_region' ?_
                  refine l_q (q_move (v := .int _ _) rfl rfl) ?_
                  refine l_q (q_move (v := .int _ _) rfl rfl) ?_
                  refine l_q (q_eql rfl rfl rfl) ?_
                  refine l_q (q_move (v := .bool _) rfl rfl) ?_
                  have hk45 : (decide ((txErr c rd er le) = 2)) = true := by rw [hte]; simp
                  refine l_part 68 rfl (fun _ => ?_) (fun hx => absurd (hk45.symm.trans hx) (by decide))
                  refine l_q (q_move (v := .slice _ _ _) rfl rfl) ?_
                  refine l_q (q_len rfl Try.underlying48 rfl rfl) ?_
                  refine l_q (q_eql rfl rfl rfl) ?_
                  refine l_q (q_pick_t (v := .bool _) rfl rfl rfl) ?_
                  refine l_q (q_move (v := .bool _) rfl rfl) ?_
                  have hk46 : (decide (((L20).length : Int) = 0)) = true := by have h0 := congrArg List.length hmt; rw [htl, List.length_map] at h0; simp at h0; simp [h0]
                  refine l_part 73 rfl (fun _ => ?_) (fun hx => absurd (hk46.symm.trans hx) (by decide))
                  refine l_o (o_call Try.call18 rfl (awake_ret _) rfl ?_)
                  rintro _ w47 ⟨rfl, hE47⟩
                  replace hB := below_ext hB hE47 hsz
                  replace hb1 := hb1.ext hE47
                  replace hrc19 := hrc19.ext hE47
                  replace ho20 := own_ext ho20 hE47
                  replace hos20 := hos20.ext hE47
                  replace hsz := Nat.le_trans hsz hE47.size
                  refine l_q (q_pick_t (v := .bool _) rfl rfl rfl) ?_
                  refine l_q (q_assign (v := .bool _) rfl rfl) ?_
                  refine l_nil ?_
                  refine r_forget [(8, .bool _)] ⟨rfl, trivial⟩ (fun e48 => ?_)
                  refine r_ret_ (vs := [.bool _]) rfl Try.func5 rfl (.nil _) ⟨rfl, trivial⟩ ?_
                  exact ⟨rfl, Ext.of_below hB⟩
                · skip
                  try simp only [decide_eq_true_eq, decide_eq_false_iff_not, Bool.not_eq_true', Bool.not_eq_false', Bool.not_not, Bool.not_true, Bool.not_false, Bool.not_eq_true, Bool.not_eq_false, Int.not_lt, Int.not_le, Bool.and_eq_true, Bool.or_eq_true, Bool.and_eq_false_iff, Bool.or_eq_false_iff] at hc41
                  have hgd : 0 ≤ le ∧ le ≤ 5 := by first | omega | (have h9 := hc41; simp at h9; omega)
                  have hte := txErr_zero (er := er) (le := le) hfc hck ⟨her3, hgd⟩
                  refine r_skip ?_
                  refine r_seq ?_
                  refine r_seq ?_
                  refine r_region' ?_
                  refine l_q (q_move (v := .int _ _) rfl rfl) ?_
                  refine l_q (q_neq rfl rfl rfl) ?_
                  refine l_nil ?_
                  refine r_forget [(1, .string _), (2, .int _ _), (3, .int _ _), (4, .pointer _), (9, .slice _ _ _), (10, .int _ _), (11, .int _ _), (64, .bool _)] ⟨rfl, rfl, rfl, rfl, rfl, rfl, rfl, rfl, trivial⟩ (fun e49 => ?_)
                  have hk50 : (!decide ((signsFault rd []) = 0)) = false := by simp [hsf]
                  refine r_cond_f ((congrArg Value.bool hk50 : Value.bool _ = _)) ?_
                  refine r_skip ?_
                  refine r_seq ?_
                  obtain ⟨l, hl⟩ : ∃ l : Nat, le = l := ⟨le.toNat, by omega⟩
                  have htr := txL_spec hte
                  rw [hl, Int.toNat_natCast] at htr
                  rw [hl] at hmt
                  refine r_forget [(1, .string _), (2, .int _ _), (3, vint (l : Int)), (4, .pointer _), (9, .slice _ _ _), (10, .int _ _), (11, .int _ _), (64, .bool _)] ⟨rfl, rfl, vint_eq hl, rfl, rfl, rfl, rfl, rfl, trivial⟩ (fun e51 => ?_)
                  refine r_region' ?_
                  refine l_q (q_move (v := .int _ _) rfl rfl) ?_
                  refine l_q (q_eql rfl rfl rfl) ?_
                  refine l_q (q_move (v := .bool _) rfl rfl) ?_
                  have hk52 : (decide ((txErr c rd er le) = 0)) = true := by rw [hte]; simp
                  refine l_part 78 rfl (fun _ => ?_) (fun hx => absurd (hk52.symm.trans hx) (by decide))
                  refine l_q (q_move (v := .slice _ _ _) rfl rfl) ?_
                  refine l_q (q_load_agg (n := 1) Try.isAgg24 Try.sizeOf24 rfl ((hb1.cells' (cs' := [_]) 0 1 rfl)) rfl rfl) ?_
                  refine l_q (q_move (v := .string _) rfl rfl) ?_
                  refine l_q (q_move (v := .int _ _) rfl rfl) ?_
                  refine l_q (q_move (v := .int _ _) rfl rfl) ?_
                  refine l_o (o_call Try.call35 rfl (rtexts_ret _ _ c rd er l _ (hrow.below hB) hcn hfc hc3 hrl (by omega) (by omega)) rfl ?_)
                  have hszp53 : w.heap.size ≤ w22.heap.size := hsz
                  rintro _ w53 ⟨oa53, oc53, L53, rfl, ho53, hos53, hm53, hE53⟩
                  replace ho53 := own_mono ho53 (show w.heap.size ≤ _ by omega)
                  replace hB := below_ext hB hE53 hsz
                  replace hb1 := hb1.ext hE53
                  replace hrc19 := hrc19.ext hE53
                  replace ho20 := own_ext ho20 hE53
                  replace hos20 := hos20.ext hE53
                  replace hsz := Nat.le_trans hsz hE53.size
                  have hmr := hm53
                  refine l_o (o_call Try.call34 rfl (lsame_ret _ _ L20 _ _ L53 _ (Row.of_owns ho20) hos20.rows (Nat.le_trans (texts_sv (hmt.trans htr) (by omega) (by omega)).1 (by decide)) (texts_sv (hmt.trans htr) (by omega) (by omega)).2.2 (Row.of_owns ho53) hos53.rows (Nat.le_trans (texts_sv hmr (by omega) (by omega)).1 (by decide)) (texts_sv hmr (by omega) (by omega)).2.2) rfl ?_)
                  rintro _ w54 ⟨rfl, hE54⟩
                  replace hB := below_ext hB hE54 hsz
                  replace hb1 := hb1.ext hE54
                  replace hrc19 := hrc19.ext hE54
                  replace ho20 := own_ext ho20 hE54
                  replace hos20 := hos20.ext hE54
                  replace ho53 := own_ext ho53 hE54
                  replace hos53 := hos53.ext hE54
                  replace hsz := Nat.le_trans hsz hE54.size
                  refine l_q (q_pick_t (v := .bool _) rfl rfl rfl) ?_
                  refine l_q (q_move (v := .bool _) rfl rfl) ?_
                  have hk55 : (decide ((L20).map (·.xs) = (L53).map (·.xs))) = true := by rw [hmt, htr, hmr]; simp
                  refine l_part 87 rfl (fun _ => ?_) (fun hx => absurd (hk55.symm.trans hx) (by decide))
                  refine l_o (o_call Try.call18 rfl (awake_ret _) rfl ?_)
                  rintro _ w56 ⟨rfl, hE56⟩
                  replace hB := below_ext hB hE56 hsz
                  replace hb1 := hb1.ext hE56
                  replace hrc19 := hrc19.ext hE56
                  replace ho20 := own_ext ho20 hE56
                  replace hos20 := hos20.ext hE56
                  replace ho53 := own_ext ho53 hE56
                  replace hos53 := hos53.ext hE56
                  replace hsz := Nat.le_trans hsz hE56.size
                  refine l_q (q_pick_t (v := .bool _) rfl rfl rfl) ?_
                  refine l_q (q_assign (v := .bool _) rfl rfl) ?_
                  refine l_nil ?_
                  refine r_forget [(8, .bool _)] ⟨rfl, trivial⟩ (fun e57 => ?_)
                  refine r_ret_ (vs := [.bool _]) rfl Try.func5 rfl (.nil _) ⟨rfl, trivial⟩ ?_
                  exact ⟨rfl, Ext.of_below hB⟩
            · skip
              try simp only [decide_eq_true_eq, decide_eq_false_iff_not, Bool.not_eq_true', Bool.not_eq_false', Bool.not_not, Bool.not_true, Bool.not_false, Bool.not_eq_true, Bool.not_eq_false, Int.not_lt, Int.not_le, Bool.and_eq_true, Bool.or_eq_true, Bool.and_eq_false_iff, Bool.or_eq_false_iff] at hc28
              have hsf : ¬ signsFault rd [] = 0 := by simpa using hc28
              have hck : ¬ chk [rd] = 0 := by rw [chk_sf]; exact hsf
              have hte := tx_err2 (er := er) (le := le) hfc hck
              rw [chk_sf] at hte
              have htl : txL c rd er le = [] := txL_bad (by rw [hte]; exact hsf)
              refine l_q (q_skip rfl) ?_
              refine l_q (q_skip rfl) ?_
              refine l_q (q_skip rfl) ?_
              refine l_q (q_skip rfl) ?_
              refine l_q (q_skip rfl) ?_
              refine l_q (q_skip rfl) ?_
              refine l_q (q_skip rfl) ?_
              refine l_q (q_skip rfl) ?_
              refine l_q (q_pick_f (v := .bool _) rfl rfl rfl) ?_
              refine l_nil ?_
              refine r_forget [(1, .string _), (2, .int _ _), (3, .int _ _), (4, .pointer _), (9, .slice _ _ _), (10, .int _ _), (11, .int _ _), (62, .bool _)] ⟨rfl, rfl, rfl, rfl, rfl, rfl, rfl, rfl, trivial⟩ (fun e58 => ?_)
              refine r_cond_f rfl ?_
              refine r_skip ?_
              refine r_seq ?_
              refine r_seq ?_
              refine r_region' ?_
              refine l_q (q_move (v := .int _ _) rfl rfl) ?_
              refine l_q (q_neq rfl rfl rfl) ?_
              refine l_nil ?_
              refine r_forget [(1, .string _), (2, .int _ _), (3, .int _ _), (4, .pointer _), (9, .slice _ _ _), (10, .int _ _), (11, .int _ _), (64, .bool _)] ⟨rfl, rfl, rfl, rfl, rfl, rfl, rfl, rfl, trivial⟩ (fun e59 => ?_)
              have hk60 : (!decide ((signsFault rd []) = 0)) = true := by simp [hsf]
              refine r_cond_t ((congrArg Value.bool hk60 : Value.bool _ = _)) ?_
              refine r_seq ?_
              refine r_region' ?_
              refine l_q (q_move (v := .int _ _) rfl rfl) ?_
              refine l_q (q_move (v := .int _ _) rfl rfl) ?_
              refine l_q (q_eql rfl rfl rfl) ?_
              refine l_q (q_move (v := .bool _) rfl rfl) ?_
              have hk61 : (decide ((txErr c rd er le) = (signsFault rd []))) = true := by rw [hte]; simp
              refine l_part 68 rfl (fun _ => ?_) (fun hx => absurd (hk61.symm.trans hx) (by decide))
              refine l_q (q_move (v := .slice _ _ _) rfl rfl) ?_
              refine l_q (q_len rfl Try.underlying48 rfl rfl) ?_
              refine l_q (q_eql rfl rfl rfl) ?_
              refine l_q (q_pick_t (v := .bool _) rfl rfl rfl) ?_
              refine l_q (q_move (v := .bool _) rfl rfl) ?_
              have hk62 : (decide (((L20).length : Int) = 0)) = true := by have h0 := congrArg List.length hmt; rw [htl, List.length_map] at h0; simp at h0; simp [h0]
              refine l_part 73 rfl (fun _ => ?_) (fun hx => absurd (hk62.symm.trans hx) (by decide))
              refine l_o (o_call Try.call18 rfl (awake_ret _) rfl ?_)
              rintro _ w63 ⟨rfl, hE63⟩
              replace hB := below_ext hB hE63 hsz
              replace hb1 := hb1.ext hE63
              replace hrc19 := hrc19.ext hE63
              replace ho20 := own_ext ho20 hE63
              replace hos20 := hos20.ext hE63
              replace hsz := Nat.le_trans hsz hE63.size
              refine l_q (q_pick_t (v := .bool _) rfl rfl rfl) ?_
              refine l_q (q_assign (v := .bool _) rfl rfl) ?_
              refine l_nil ?_
              refine r_forget [(8, .bool _)] ⟨rfl, trivial⟩ (fun e64 => ?_)
              refine r_ret_ (vs := [.bool _]) rfl Try.func5 rfl (.nil _) ⟨rfl, trivial⟩ ?_
              exact ⟨rfl, Ext.of_below hB⟩
        · skip
          try simp only [decide_eq_true_eq, decide_eq_false_iff_not, Bool.not_eq_true', Bool.not_eq_false', Bool.not_not, Bool.not_true, Bool.not_false, Bool.not_eq_true, Bool.not_eq_false, Int.not_lt, Int.not_le, Bool.and_eq_true, Bool.or_eq_true, Bool.and_eq_false_iff, Bool.or_eq_false_iff] at hc14
          have hle3 : le ≤ 3 := by first | omega | (have h9 := hc14; simp at h9; omega)
          refine l_q (q_skip rfl) ?_
          refine l_q (q_skip rfl) ?_
          refine l_q (q_pick_f (v := .bool _) rfl rfl rfl) ?_
          refine l_q (q_pick_f (v := .bool _) rfl rfl rfl) ?_
          refine l_q (q_pick_t (v := .bool _) rfl rfl rfl) ?_
          refine l_q (q_pick_f (v := .bool _) rfl rfl rfl) ?_
          refine l_nil ?_
          refine r_forget [(1, .string _), (2, .int _ _), (3, .int _ _), (4, .pointer _), (34, .bool _)] ⟨rfl, rfl, rfl, rfl, rfl, trivial⟩ (fun e65 => ?_)
          refine r_cond_f rfl ?_
          refine r_skip ?_
          refine r_seq ?_
          refine r_region' ?_
          refine l_q (q_load_agg (n := 1) Try.isAgg24 Try.sizeOf24 rfl ((hb1.cells' (cs' := [_]) 0 1 rfl)) rfl rfl) ?_
          refine l_o (o_call Try.call20 rfl (code_ret _ _ c _ (hrow.below hB) (by omega)) rfl ?_)
          rintro _ w66 ⟨ca66, cc66, rfl, hrc66, hE66⟩
          replace hB := below_ext hB hE66 hsz
          replace hb1 := hb1.ext hE66
          replace hsz := Nat.le_trans hsz hE66.size
          refine l_q (q_move (v := .string _) rfl rfl) ?_
          refine l_q (q_move (v := .int _ _) rfl rfl) ?_
          refine l_q (q_move (v := .int _ _) rfl rfl) ?_
          refine l_o (o_call Try.call32 rfl (texts2_ret _ _ c rd er le _ hrc66 hcn hcl hrd) rfl ?_)
          have hszp67 : w.heap.size ≤ w66.heap.size := hsz
          rintro _ w67 ⟨oa67, oc67, L67, rfl, ho67, hos67, hm67, hE67⟩
          replace ho67 := own_mono ho67 (show w.heap.size ≤ _ by omega)
          replace hB := below_ext hB hE67 hsz
          replace hb1 := hb1.ext hE67
          replace hrc66 := hrc66.ext hE67
          replace hsz := Nat.le_trans hsz hE67.size
          have hmt := hm67
          refine l_q (q_move (v := .tuple _) rfl rfl) ?_
          refine l_q (q_extract (vs := [_, _]) (v := .slice _ _ _) rfl rfl rfl) ?_
          refine l_q (q_extract (vs := [_, _]) (v := .int _ _) rfl rfl rfl) ?_
          refine l_q (q_assign (v := .slice _ _ _) rfl rfl) ?_
          refine l_q (q_assign (v := .int _ _) rfl rfl) ?_
          refine l_nil ?_
          refine r_forget [(1, .string _), (2, .int _ _), (3, .int _ _), (4, .pointer _), (9, .slice _ _ _), (10, .int _ _)] ⟨rfl, rfl, rfl, rfl, rfl, rfl, trivial⟩ (fun e68 => ?_)
          refine r_seq ?_
          refine r_region' ?_
          refine l_q (q_load_agg (n := 1) Try.isAgg24 Try.sizeOf24 rfl ((hb1.cells' (cs' := [_]) 0 1 rfl)) rfl rfl) ?_
          refine l_o (o_call Try.call23 rfl (lfault_ret _ _ _ _ (hrow.below hB) (by omega)) rfl ?_)
          rintro _ w69 ⟨rfl, hE69⟩
          replace hB := below_ext hB hE69 hsz
          replace hb1 := hb1.ext hE69
          replace hrc66 := hrc66.ext hE69
          replace ho67 := own_ext ho67 hE69
          replace hos67 := hos67.ext hE69
          replace hsz := Nat.le_trans hsz hE69.size
          refine l_q (q_assign (v := .int _ _) rfl rfl) ?_
          refine l_nil ?_
          refine r_forget [(1, .string _), (2, .int _ _), (3, .int _ _), (4, .pointer _), (9, .slice _ _ _), (10, .int _ _), (11, .int _ _)] ⟨rfl, rfl, rfl, rfl, rfl, rfl, rfl, trivial⟩ (fun e70 => ?_)
          refine r_seq ?_
          refine r_seq ?_
          refine r_region' ?_
          refine l_q (q_move (v := .int _ _) rfl rfl) ?_
          refine l_q (q_eql rfl rfl rfl) ?_
          refine l_nil ?_
          refine r_forget [(1, .string _), (2, .int _ _), (3, .int _ _), (4, .pointer _), (9, .slice _ _ _), (10, .int _ _), (11, .int _ _), (48, .bool _)] ⟨rfl, rfl, rfl, rfl, rfl, rfl, rfl, rfl, trivial⟩ (fun e71 => ?_)
          have hk72 : (decide ((fault c) = 0)) = true := by simp [hfc]
          refine r_cond_t ((congrArg Value.bool hk72 : Value.bool _ = _)) ?_
          refine r_region' ?_
          refine l_q (q_move (v := .string _) rfl rfl) ?_
          refine l_o (o_call Try.call28 rfl (signed_ret rd [] _ hrd (by decide)) rfl ?_)
          rintro _ w73 ⟨rfl, rfl⟩
          refine l_q (q_assign (v := .int _ _) rfl rfl) ?_
          refine l_nil ?_
          refine r_forget [(1, .string _), (2, .int _ _), (3, .int _ _), (4, .pointer _), (9, .slice _ _ _), (10, .int _ _), (11, .int _ _)] ⟨rfl, rfl, rfl, rfl, rfl, rfl, rfl, trivial⟩ (fun e74 => ?_)
          refine r_seq ?_
          refine r_seq ?_
          refine r_region' ?_
          refine l_q (q_move (v := .int _ _) rfl rfl) ?_
          refine l_q (q_eql rfl rfl rfl) ?_
          refine l_q (q_move (v := .bool _) rfl rfl) ?_
          refine l_part 53 rfl (fun hc75 => ?_) (fun hc75 => ?_)
          · skip
            try simp only [decide_eq_true_eq, decide_eq_false_iff_not, Bool.not_eq_true', Bool.not_eq_false', Bool.not_not, Bool.not_true, Bool.not_false, Bool.not_eq_true, Bool.not_eq_false, Int.not_lt, Int.not_le, Bool.and_eq_true, Bool.or_eq_true, Bool.and_eq_false_iff, Bool.or_eq_false_iff] at hc75
            have hsf : signsFault rd [] = 0 := by simpa using hc75
            have hck : chk [rd] = 0 := by rw [chk_sf]; exact hsf
            have hrl : rd.length ≤ 40 := chk_one hck
            refine l_q (q_move (v := .int _ _) rfl rfl) ?_
            refine l_o (o_call Try.call33 rfl (in_ret _ _ _ _) rfl ?_)
            rintro _ w76 ⟨rfl, rfl⟩
            refine l_q (q_not rfl rfl) ?_
            refine l_q (q_move (v := .bool _) rfl rfl) ?_
            refine l_part 57 rfl (fun hc77 => ?_) (fun hc77 => ?_)
            · skip
              try simp only [decide_eq_true_eq, decide_eq_false_iff_not, Bool.not_eq_true', Bool.not_eq_false', Bool.not_not, Bool.not_true, Bool.not_false, Bool.not_eq_true, Bool.not_eq_false, Int.not_lt, Int.not_le, Bool.and_eq_true, Bool.or_eq_true, Bool.and_eq_false_iff, Bool.or_eq_false_iff] at hc77
              have hbad : ¬ ((0 ≤ er ∧ er ≤ 3) ∧ 0 ≤ le ∧ le ≤ 5) := by first | omega | (have h9 := hc77; simp at h9; omega)
              have hte := tx_err3 hfc hck hbad
              have htl : txL c rd er le = [] := txL_bad (by rw [hte]; decide)
              refine l_q (q_skip rfl) ?_
              refine l_q (q_skip rfl) ?_
              refine l_q (q_skip rfl) ?_
              refine l_q (q_pick_t (v := .bool _) rfl rfl rfl) ?_
              refine l_q (q_pick_t (v := .bool _) rfl rfl rfl) ?_
              refine l_nil ?_
              refine r_forget [(1, .string _), (2, .int _ _), (3, .int _ _), (4, .pointer _), (9, .slice _ _ _), (10, .int _ _), (11, .int _ _), (62, .bool _)] ⟨rfl, rfl, rfl, rfl, rfl, rfl, rfl, rfl, trivial⟩ (fun e78 => ?_)
              refine r_cond_t rfl ?_
              refine r_region' ?_
              refine l_q (q_assign (v := .int _ _) rfl rfl) ?_
              refine l_nil ?_
              refine r_forget [(1, .string _), (2, .int _ _), (3, .int _ _), (4, .pointer _), (9, .slice _ _ _), (10, .int _ _), (11, .int _ _)] ⟨rfl, rfl, rfl, rfl, rfl, rfl, rfl, trivial⟩ (fun e79 => ?_)
              refine r_seq ?_
              refine r_seq ?_
              refine r_region' ?_
              refine l_q (q_move (v := .int _ _) rfl rfl) ?_
              refine l_q (q_neq rfl rfl rfl) ?_
              refine l_nil ?_
              refine r_forget [(1, .string _), (2, .int _ _), (3, .int _ _), (4, .pointer _), (9, .slice _ _ _), (10, .int _ _), (11, .int _ _), (64, .bool _)] ⟨rfl, rfl, rfl, rfl, rfl, rfl, rfl, rfl, trivial⟩ (fun e80 => ?_)
              have hk81 : (!decide (2 = 0)) = true := by decide
              refine r_cond_t ((congrArg Value.bool hk81 : Value.bool _ = _)) ?_
              refine r_seq ?_
              refine r_region' ?_
              refine l_q (q_move (v := .int _ _) rfl rfl) ?_
              refine l_q (q_move (v := .int _ _) rfl rfl) ?_
              refine l_q (q_eql rfl rfl rfl) ?_
              refine l_q (q_move (v := .bool _) rfl rfl) ?_
              have hk82 : (decide ((txErr c rd er le) = 2)) = true := by rw [hte]; simp
              refine l_part 68 rfl (fun _ => ?_) (fun hx => absurd (hk82.symm.trans hx) (by decide))
              refine l_q (q_move (v := .slice _ _ _) rfl rfl) ?_
              refine l_q (q_len rfl Try.underlying48 rfl rfl) ?_
              refine l_q (q_eql rfl rfl rfl) ?_
              refine l_q (q_pick_t (v := .bool _) rfl rfl rfl) ?_
              refine l_q (q_move (v := .bool _) rfl rfl) ?_
              have hk83 : (decide (((L67).length : Int) = 0)) = true := by have h0 := congrArg List.length hmt; rw [htl, List.length_map] at h0; simp at h0; simp [h0]
              refine l_part 73 rfl (fun _ => ?_) (fun hx => absurd (hk83.symm.trans hx) (by decide))
              refine l_o (o_call Try.call18 rfl (awake_ret _) rfl ?_)
              rintro _ w84 ⟨rfl, hE84⟩
              replace hB := below_ext hB hE84 hsz
              replace hb1 := hb1.ext hE84
              replace hrc66 := hrc66.ext hE84
              replace ho67 := own_ext ho67 hE84
              replace hos67 := hos67.ext hE84
              replace hsz := Nat.le_trans hsz hE84.size
              refine l_q (q_pick_t (v := .bool _) rfl rfl rfl) ?_
              refine l_q (q_assign (v := .bool _) rfl rfl) ?_
              refine l_nil ?_
              refine r_forget [(8, .bool _)] ⟨rfl, trivial⟩ (fun e85 => ?_)
              refine r_ret_ (vs := [.bool _]) rfl Try.func5 rfl (.nil _) ⟨rfl, trivial⟩ ?_
              exact ⟨rfl, Ext.of_below hB⟩
            · skip
              try simp only [decide_eq_true_eq, decide_eq_false_iff_not, Bool.not_eq_true', Bool.not_eq_false', Bool.not_not, Bool.not_true, Bool.not_false, Bool.not_eq_true, Bool.not_eq_false, Int.not_lt, Int.not_le, Bool.and_eq_true, Bool.or_eq_true, Bool.and_eq_false_iff, Bool.or_eq_false_iff] at hc77
              have her3 : 0 ≤ er ∧ er ≤ 3 := by first | omega | (have h9 := hc77; simp at h9; omega)
              refine l_q (q_move (v := .int _ _) rfl rfl) ?_
              refine l_o (o_call Try.call33 rfl (in_ret _ _ _ _) rfl ?_)
              rintro _ w86 ⟨rfl, rfl⟩
              refine l_q (q_not rfl rfl) ?_
              refine l_q (q_pick_f (v := .bool _) rfl rfl rfl) ?_
              refine l_q (q_pick_t (v := .bool _) rfl rfl rfl) ?_
              refine l_nil ?_
              refine r_forget [(1, .string _), (2, .int _ _), (3, .int _ _), (4, .pointer _), (9, .slice _ _ _), (10, .int _ _), (11, .int _ _), (62, .bool _)] ⟨rfl, rfl, rfl, rfl, rfl, rfl, rfl, rfl, trivial⟩ (fun e87 => ?_)
              refine r_cond rfl (fun hc88 => ?_) (fun hc88 => ?_)
              · skip
                try simp only [decide_eq_true_eq, decide_eq_false_iff_not, Bool.not_eq_true', Bool.not_eq_false', Bool.not_not, Bool.not_true, Bool.not_false, Bool.not_eq_true, Bool.not_eq_false, Int.not_lt, Int.not_le, Bool.and_eq_true, Bool.or_eq_true, Bool.and_eq_false_iff, Bool.or_eq_false_iff] at hc88
                have hbad : ¬ ((0 ≤ er ∧ er ≤ 3) ∧ 0 ≤ le ∧ le ≤ 5) := by first | omega | (have h9 := hc88; simp at h9; omega)
                have hte := tx_err3 hfc hck hbad
                have htl : txL c rd er le = [] := txL_bad (by rw [hte]; decide)
                refine r_region' ?_
                refine l_q (q_assign (v := .int _ _) rfl rfl) ?_
                refine l_nil ?_
                refine r_forget [(1, .string _), (2, .int _ _), (3, .int _ _), (4, .pointer _), (9, .slice _ _ _), (10, .int _ _), (11, .int _ _)] ⟨rfl, rfl, rfl, rfl, rfl, rfl, rfl, trivial⟩ (fun e89 => ?_)
                refine r_seq ?_
                refine r_seq ?_
                refine r_region' ?_
                refine l_q (q_move (v := .int _ _) rfl rfl) ?_
                refine l_q (q_neq rfl rfl rfl) ?_
                refine l_nil ?_
                refine r_forget [(1, .string _), (2, .int _ _), (3, .int _ _), (4, .pointer _), (9, .slice _ _ _), (10, .int _ _), (11, .int _ _), (64, .bool _)] ⟨rfl, rfl, rfl, rfl, rfl, rfl, rfl, rfl, trivial⟩ (fun e90 => ?_)
                have hk91 : (!decide (2 = 0)) = true := by decide
                refine r_cond_t ((congrArg Value.bool hk91 : Value.bool _ = _)) ?_
                refine r_seq ?_
                refine r_region' ?_
                refine l_q (q_move (v := .int _ _) rfl rfl) ?_
                refine l_q (q_move (v := .int _ _) rfl rfl) ?_
                refine l_q (q_eql rfl rfl rfl) ?_
                refine l_q (q_move (v := .bool _) rfl rfl) ?_
                have hk92 : (decide ((txErr c rd er le) = 2)) = true := by rw [hte]; simp
                refine l_part 68 rfl (fun _ => ?_) (fun hx => absurd (hk92.symm.trans hx) (by decide))
                refine l_q (q_move (v := .slice _ _ _) rfl rfl) ?_
                refine l_q (q_len rfl Try.underlying48 rfl rfl) ?_
                refine l_q (q_eql rfl rfl rfl) ?_
                refine l_q (q_pick_t (v := .bool _) rfl rfl rfl) ?_
                refine l_q (q_move (v := .bool _) rfl rfl) ?_
                have hk93 : (decide (((L67).length : Int) = 0)) = true := by have h0 := congrArg List.length hmt; rw [htl, List.length_map] at h0; simp at h0; simp [h0]
                refine l_part 73 rfl (fun _ => ?_) (fun hx => absurd (hk93.symm.trans hx) (by decide))
                refine l_o (o_call Try.call18 rfl (awake_ret _) rfl ?_)
                rintro _ w94 ⟨rfl, hE94⟩
                replace hB := below_ext hB hE94 hsz
                replace hb1 := hb1.ext hE94
                replace hrc66 := hrc66.ext hE94
                replace ho67 := own_ext ho67 hE94
                replace hos67 := hos67.ext hE94
                replace hsz := Nat.le_trans hsz hE94.size
                refine l_q (q_pick_t (v := .bool _) rfl rfl rfl) ?_
                refine l_q (q_assign (v := .bool _) rfl rfl) ?_
                refine l_nil ?_
                refine r_forget [(8, .bool _)] ⟨rfl, trivial⟩ (fun e95 => ?_)
                refine r_ret_ (vs := [.bool _]) rfl Try.func5 rfl (.nil _) ⟨rfl, trivial⟩ ?_
                exact ⟨rfl, Ext.of_below hB⟩
              · skip
                try simp only [decide_eq_true_eq, decide_eq_false_iff_not, Bool.not_eq_true', Bool.not_eq_false', Bool.not_not, Bool.not_true, Bool.not_false, Bool.not_eq_true, Bool.not_eq_false, Int.not_lt, Int.not_le, Bool.and_eq_true, Bool.or_eq_true, Bool.and_eq_false_iff, Bool.or_eq_false_iff] at hc88
                have hgd : 0 ≤ le ∧ le ≤ 5 := by first | omega | (have h9 := hc88; simp at h9; omega)
                have hte := txErr_zero (er := er) (le := le) hfc hck ⟨her3, hgd⟩
                refine r_skip ?_
                refine r_seq ?_
                refine r_seq ?_
                refine r_region' ?_
                refine l_q (q_move (v := .int _ _) rfl rfl) ?_
                refine l_q (q_neq rfl rfl rfl) ?_
                refine l_nil ?_
                refine r_forget [(1, .string _), (2, .int _ _), (3, .int _ _), (4, .pointer _), (9, .slice _ _ _), (10, .int _ _), (11, .int _ _), (64, .bool _)] ⟨rfl, rfl, rfl, rfl, rfl, rfl, rfl, rfl, trivial⟩ (fun e96 => ?_)
                have hk97 : (!decide ((signsFault rd []) = 0)) = false := by simp [hsf]
                refine r_cond_f ((congrArg Value.bool hk97 : Value.bool _ = _)) ?_
                refine r_skip ?_
                refine r_seq ?_
                obtain ⟨l, hl⟩ : ∃ l : Nat, le = l := ⟨le.toNat, by omega⟩
                have htr := txL_spec hte
                rw [hl, Int.toNat_natCast] at htr
                rw [hl] at hmt
                refine r_forget [(1, .string _), (2, .int _ _), (3, vint (l : Int)), (4, .pointer _), (9, .slice _ _ _), (10, .int _ _), (11, .int _ _), (64, .bool _)] ⟨rfl, rfl, vint_eq hl, rfl, rfl, rfl, rfl, rfl, trivial⟩ (fun e98 => ?_)
                refine r_region' ?_
                refine l_q (q_move (v := .int _ _) rfl rfl) ?_
                refine l_q (q_eql rfl rfl rfl) ?_
                refine l_q (q_move (v := .bool _) rfl rfl) ?_
                have hk99 : (decide ((txErr c rd er le) = 0)) = true := by rw [hte]; simp
                refine l_part 78 rfl (fun _ => ?_) (fun hx => absurd (hk99.symm.trans hx) (by decide))
                refine l_q (q_move (v := .slice _ _ _) rfl rfl) ?_
                refine l_q (q_load_agg (n := 1) Try.isAgg24 Try.sizeOf24 rfl ((hb1.cells' (cs' := [_]) 0 1 rfl)) rfl rfl) ?_
                refine l_q (q_move (v := .string _) rfl rfl) ?_
                refine l_q (q_move (v := .int _ _) rfl rfl) ?_
                refine l_q (q_move (v := .int _ _) rfl rfl) ?_
                refine l_o (o_call Try.call35 rfl (rtexts_ret _ _ c rd er l _ (hrow.below hB) hcn hfc hc3 hrl (by omega) (by omega)) rfl ?_)
                have hszp100 : w.heap.size ≤ w69.heap.size := hsz
                rintro _ w100 ⟨oa100, oc100, L100, rfl, ho100, hos100, hm100, hE100⟩
                replace ho100 := own_mono ho100 (show w.heap.size ≤ _ by omega)
                replace hB := below_ext hB hE100 hsz
                replace hb1 := hb1.ext hE100
                replace hrc66 := hrc66.ext hE100
                replace ho67 := own_ext ho67 hE100
                replace hos67 := hos67.ext hE100
                replace hsz := Nat.le_trans hsz hE100.size
                have hmr := hm100
                refine l_o (o_call Try.call34 rfl (lsame_ret _ _ L67 _ _ L100 _ (Row.of_owns ho67) hos67.rows (Nat.le_trans (texts_sv (hmt.trans htr) (by omega) (by omega)).1 (by decide)) (texts_sv (hmt.trans htr) (by omega) (by omega)).2.2 (Row.of_owns ho100) hos100.rows (Nat.le_trans (texts_sv hmr (by omega) (by omega)).1 (by decide)) (texts_sv hmr (by omega) (by omega)).2.2) rfl ?_)
                rintro _ w101 ⟨rfl, hE101⟩
                replace hB := below_ext hB hE101 hsz
                replace hb1 := hb1.ext hE101
                replace hrc66 := hrc66.ext hE101
                replace ho67 := own_ext ho67 hE101
                replace hos67 := hos67.ext hE101
                replace ho100 := own_ext ho100 hE101
                replace hos100 := hos100.ext hE101
                replace hsz := Nat.le_trans hsz hE101.size
                refine l_q (q_pick_t (v := .bool _) rfl rfl rfl) ?_
                refine l_q (q_move (v := .bool _) rfl rfl) ?_
                have hk102 : (decide ((L67).map (·.xs) = (L100).map (·.xs))) = true := by rw [hmt, htr, hmr]; simp
                refine l_part 87 rfl (fun _ => ?_) (fun hx => absurd (hk102.symm.trans hx) (by decide))
                refine l_o (o_call Try.call18 rfl (awake_ret _) rfl ?_)
                rintro _ w103 ⟨rfl, hE103⟩
                replace hB := below_ext hB hE103 hsz
                replace hb1 := hb1.ext hE103
                replace hrc66 := hrc66.ext hE103
                replace ho67 := own_ext ho67 hE103
                replace hos67 := hos67.ext hE103
                replace ho100 := own_ext ho100 hE103
                replace hos100 := hos100.ext hE103
                replace hsz := Nat.le_trans hsz hE103.size
                refine l_q (q_pick_t (v := .bool _) rfl rfl rfl) ?_
                refine l_q (q_assign (v := .bool _) rfl rfl) ?_
                refine l_nil ?_
                refine r_forget [(8, .bool _)] ⟨rfl, trivial⟩ (fun e104 => ?_)
                refine r_ret_ (vs := [.bool _]) rfl Try.func5 rfl (.nil _) ⟨rfl, trivial⟩ ?_
                exact ⟨rfl, Ext.of_below hB⟩
          · skip
            try simp only [decide_eq_true_eq, decide_eq_false_iff_not, Bool.not_eq_true', Bool.not_eq_false', Bool.not_not, Bool.not_true, Bool.not_false, Bool.not_eq_true, Bool.not_eq_false, Int.not_lt, Int.not_le, Bool.and_eq_true, Bool.or_eq_true, Bool.and_eq_false_iff, Bool.or_eq_false_iff] at hc75
            have hsf : ¬ signsFault rd [] = 0 := by simpa using hc75
            have hck : ¬ chk [rd] = 0 := by rw [chk_sf]; exact hsf
            have hte := tx_err2 (er := er) (le := le) hfc hck
            rw [chk_sf] at hte
            have htl : txL c rd er le = [] := txL_bad (by rw [hte]; exact hsf)
            refine l_q (q_skip rfl) ?_
            refine l_q (q_skip rfl) ?_
            refine l_q (q_skip rfl) ?_
            refine l_q (q_skip rfl) ?_
            refine l_q (q_skip rfl) ?_
            refine l_q (q_skip rfl) ?_
            refine l_q (q_skip rfl) ?_
            refine l_q (q_skip rfl) ?_
            refine l_q (q_pick_f (v := .bool _) rfl rfl rfl) ?_
            refine l_nil ?_
            refine r_forget [(1, .string _), (2, .int _ _), (3, .int _ _), (4, .pointer _), (9, .slice _ _ _), (10, .int _ _), (11, .int _ _), (62, .bool _)] ⟨rfl, rfl, rfl, rfl, rfl, rfl, rfl, rfl, trivial⟩ (fun e105 => ?_)
            refine r_cond_f rfl ?_
            refine r_skip ?_
            refine r_seq ?_
            refine r_seq ?_
            refine r_region' ?_
            refine l_q (q_move (v := .int _ _) rfl rfl) ?_
            refine l_q (q_neq rfl rfl rfl) ?_
            refine l_nil ?_
            refine r_forget [(1, .string _), (2, .int _ _), (3, .int _ _), (4, .pointer _), (9, .slice _ _ _), (10, .int _ _), (11, .int _ _), (64, .bool _)] ⟨rfl, rfl, rfl, rfl, rfl, rfl, rfl, rfl, trivial⟩ (fun e106 => ?_)
            have hk107 : (!decide ((signsFault rd []) = 0)) = true := by simp [hsf]
            refine r_cond_t ((congrArg Value.bool hk107 : Value.bool _ = _)) ?_
            refine r_seq ?_
            refine r_region' ?_
            refine l_q (q_move (v := .int _ _) rfl rfl) ?_
            refine l_q (q_move (v := .int _ _) rfl rfl) ?_
            refine l_q (q_eql rfl rfl rfl) ?_
            refine l_q (q_move (v := .bool _) rfl rfl) ?_
            have hk108 : (decide ((txErr c rd er le) = (signsFault rd []))) = true := by rw [hte]; simp
            refine l_part 68 rfl (fun _ => ?_) (fun hx => absurd (hk108.symm.trans hx) (by decide))
            refine l_q (q_move (v := .slice _ _ _) rfl rfl) ?_
            refine l_q (q_len rfl Try.underlying48 rfl rfl) ?_
            refine l_q (q_eql rfl rfl rfl) ?_
            refine l_q (q_pick_t (v := .bool _) rfl rfl rfl) ?_
            refine l_q (q_move (v := .bool _) rfl rfl) ?_
            have hk109 : (decide (((L67).length : Int) = 0)) = true := by have h0 := congrArg List.length hmt; rw [htl, List.length_map] at h0; simp at h0; simp [h0]
            refine l_part 73 rfl (fun _ => ?_) (fun hx => absurd (hk109.symm.trans hx) (by decide))
            refine l_o (o_call Try.call18 rfl (awake_ret _) rfl ?_)
            rintro _ w110 ⟨rfl, hE110⟩
            replace hB := below_ext hB hE110 hsz
            replace hb1 := hb1.ext hE110
            replace hrc66 := hrc66.ext hE110
            replace ho67 := own_ext ho67 hE110
            replace hos67 := hos67.ext hE110
            replace hsz := Nat.le_trans hsz hE110.size
            refine l_q (q_pick_t (v := .bool _) rfl rfl rfl) ?_
            refine l_q (q_assign (v := .bool _) rfl rfl) ?_
            refine l_nil ?_
            refine r_forget [(8, .bool _)] ⟨rfl, trivial⟩ (fun e111 => ?_)
            refine r_ret_ (vs := [.bool _]) rfl Try.func5 rfl (.nil _) ⟨rfl, trivial⟩ ?_
            exact ⟨rfl, Ext.of_below hB⟩
    · skip
      try simp only [decide_eq_true_eq, decide_eq_false_iff_not, Bool.not_eq_true', Bool.not_eq_false', Bool.not_not, Bool.not_true, Bool.not_false, Bool.not_eq_true, Bool.not_eq_false, Int.not_lt, Int.not_le, Bool.and_eq_true, Bool.or_eq_true, Bool.and_eq_false_iff, Bool.or_eq_false_iff] at hc9
      have hfc : ¬ fault c = 0 := by simpa using hc9
      have hte := tx_err1 (rd := rd) (er := er) (le := le) hfc
      have htl : txL c rd er le = [] := txL_bad (by rw [hte]; exact hfc)
      refine l_q (q_skip rfl) ?_
      refine l_q (q_skip rfl) ?_
      refine l_q (q_skip rfl) ?_
      refine l_q (q_skip rfl) ?_
      refine l_q (q_skip rfl) ?_
      refine l_q (q_skip rfl) ?_
      refine l_q (q_skip rfl) ?_
      refine l_q (q_skip rfl) ?_
      refine l_q (q_skip rfl) ?_
      refine l_q (q_skip rfl) ?_
      refine l_q (q_skip rfl) ?_
      refine l_q (q_skip rfl) ?_
      refine l_q (q_pick_f (v := .bool _) rfl rfl rfl) ?_
      refine l_q (q_pick_f (v := .bool _) rfl rfl rfl) ?_
      refine l_nil ?_
      refine r_forget [(1, .string _), (2, .int _ _), (3, .int _ _), (4, .pointer _), (34, .bool _)] ⟨rfl, rfl, rfl, rfl, rfl, trivial⟩ (fun e112 => ?_)
      refine r_cond_f rfl ?_
      refine r_skip ?_
      refine r_seq ?_
      refine r_region' ?_
      refine l_q (q_load_agg (n := 1) Try.isAgg24 Try.sizeOf24 rfl ((hb1.cells' (cs' := [_]) 0 1 rfl)) rfl rfl) ?_
      refine l_o (o_call Try.call20 rfl (code_ret _ _ c _ (hrow.below hB) (by omega)) rfl ?_)
      rintro _ w113 ⟨ca113, cc113, rfl, hrc113, hE113⟩
      replace hB := below_ext hB hE113 hsz
      replace hb1 := hb1.ext hE113
      replace hsz := Nat.le_trans hsz hE113.size
      refine l_q (q_move (v := .string _) rfl rfl) ?_
      refine l_q (q_move (v := .int _ _) rfl rfl) ?_
      refine l_q (q_move (v := .int _ _) rfl rfl) ?_
      refine l_o (o_call Try.call32 rfl (texts2_ret _ _ c rd er le _ hrc113 hcn hcl hrd) rfl ?_)
      have hszp114 : w.heap.size ≤ w113.heap.size := hsz
      rintro _ w114 ⟨oa114, oc114, L114, rfl, ho114, hos114, hm114, hE114⟩
      replace ho114 := own_mono ho114 (show w.heap.size ≤ _ by omega)
      replace hB := below_ext hB hE114 hsz
      replace hb1 := hb1.ext hE114
      replace hrc113 := hrc113.ext hE114
      replace hsz := Nat.le_trans hsz hE114.size
      have hmt := hm114
      refine l_q (q_move (v := .tuple _) rfl rfl) ?_
      refine l_q (q_extract (vs := [_, _]) (v := .slice _ _ _) rfl rfl rfl) ?_
      refine l_q (q_extract (vs := [_, _]) (v := .int _ _) rfl rfl rfl) ?_
      refine l_q (q_assign (v := .slice _ _ _) rfl rfl) ?_
      refine l_q (q_assign (v := .int _ _) rfl rfl) ?_
      refine l_nil ?_
      refine r_forget [(1, .string _), (2, .int _ _), (3, .int _ _), (4, .pointer _), (9, .slice _ _ _), (10, .int _ _)] ⟨rfl, rfl, rfl, rfl, rfl, rfl, trivial⟩ (fun e115 => ?_)
      refine r_seq ?_
      refine r_region' ?_
      refine l_q (q_load_agg (n := 1) Try.isAgg24 Try.sizeOf24 rfl ((hb1.cells' (cs' := [_]) 0 1 rfl)) rfl rfl) ?_
      refine l_o (o_call Try.call23 rfl (lfault_ret _ _ _ _ (hrow.below hB) (by omega)) rfl ?_)
      rintro _ w116 ⟨rfl, hE116⟩
      replace hB := below_ext hB hE116 hsz
      replace hb1 := hb1.ext hE116
      replace hrc113 := hrc113.ext hE116
      replace ho114 := own_ext ho114 hE116
      replace hos114 := hos114.ext hE116
      replace hsz := Nat.le_trans hsz hE116.size
      refine l_q (q_assign (v := .int _ _) rfl rfl) ?_
      refine l_nil ?_
      refine r_forget [(1, .string _), (2, .int _ _), (3, .int _ _), (4, .pointer _), (9, .slice _ _ _), (10, .int _ _), (11, .int _ _)] ⟨rfl, rfl, rfl, rfl, rfl, rfl, rfl, trivial⟩ (fun e117 => ?_)
      refine r_seq ?_
      refine r_seq ?_
      refine r_region' ?_
      refine l_q (q_move (v := .int _ _) rfl rfl) ?_
      refine l_q (q_eql rfl rfl rfl) ?_
      refine l_nil ?_
      refine r_forget [(1, .string _), (2, .int _ _), (3, .int _ _), (4, .pointer _), (9, .slice _ _ _), (10, .int _ _), (11, .int _ _), (48, .bool _)] ⟨rfl, rfl, rfl, rfl, rfl, rfl, rfl, rfl, trivial⟩ (fun e118 => ?_)
      have hk119 : (decide ((fault c) = 0)) = false := by simp [hfc]
      refine r_cond_f ((congrArg Value.bool hk119 : Value.bool _ = _)) ?_
      refine r_skip ?_
      refine r_seq ?_
      refine r_seq ?_
      refine r_region' ?_
      refine l_q (q_move (v := .int _ _) rfl rfl) ?_
      refine l_q (q_eql rfl rfl rfl) ?_
      refine l_q (q_move (v := .bool _) rfl rfl) ?_
      have hk120 : (decide ((fault c) = 0)) = false := by simp [hfc]
      refine l_part 53 rfl (fun hx => absurd (hk120.symm.trans hx) (by decide)) (fun _ => ?_)
      refine l_q (q_skip rfl) ?_
      refine l_q (q_skip rfl) ?_
      refine l_q (q_skip rfl) ?_
      refine l_q (q_skip rfl) ?_
      refine l_q (q_skip rfl) ?_
      refine l_q (q_skip rfl) ?_
      refine l_q (q_skip rfl) ?_
      refine l_q (q_skip rfl) ?_
      refine l_q (q_pick_f (v := .bool _) rfl rfl rfl) ?_
      refine l_nil ?_
      refine r_forget [(1, .string _), (2, .int _ _), (3, .int _ _), (4, .pointer _), (9, .slice _ _ _), (10, .int _ _), (11, .int _ _), (62, .bool _)] ⟨rfl, rfl, rfl, rfl, rfl, rfl, rfl, rfl, trivial⟩ (fun e121 => ?_)
      refine r_cond_f rfl ?_
      refine r_skip ?_
      refine r_seq ?_
      refine r_seq ?_
      refine r_region' ?_
      refine l_q (q_move (v := .int _ _) rfl rfl) ?_
      refine l_q (q_neq rfl rfl rfl) ?_
      refine l_nil ?_
      refine r_forget [(1, .string _), (2, .int _ _), (3, .int _ _), (4, .pointer _), (9, .slice _ _ _), (10, .int _ _), (11, .int _ _), (64, .bool _)] ⟨rfl, rfl, rfl, rfl, rfl, rfl, rfl, rfl, trivial⟩ (fun e122 => ?_)
      have hk123 : (!decide ((fault c) = 0)) = true := by simp [hfc]
      refine r_cond_t ((congrArg Value.bool hk123 : Value.bool _ = _)) ?_
      refine r_seq ?_
      refine r_region' ?_
      refine l_q (q_move (v := .int _ _) rfl rfl) ?_
      refine l_q (q_move (v := .int _ _) rfl rfl) ?_
      refine l_q (q_eql rfl rfl rfl) ?_
      refine l_q (q_move (v := .bool _) rfl rfl) ?_
      have hk124 : (decide ((txErr c rd er le) = (fault c))) = true := by rw [hte]; simp
      refine l_part 68 rfl (fun _ => ?_) (fun hx => absurd (hk124.symm.trans hx) (by decide))
      refine l_q (q_move (v := .slice _ _ _) rfl rfl) ?_
      refine l_q (q_len rfl Try.underlying48 rfl rfl) ?_
      refine l_q (q_eql rfl rfl rfl) ?_
      refine l_q (q_pick_t (v := .bool _) rfl rfl rfl) ?_
      refine l_q (q_move (v := .bool _) rfl rfl) ?_
      have hk125 : (decide (((L114).length : Int) = 0)) = true := by have h0 := congrArg List.length hmt; rw [htl, List.length_map] at h0; simp at h0; simp [h0]
      refine l_part 73 rfl (fun _ => ?_) (fun hx => absurd (hk125.symm.trans hx) (by decide))
      refine l_o (o_call Try.call18 rfl (awake_ret _) rfl ?_)
      rintro _ w126 ⟨rfl, hE126⟩
      replace hB := below_ext hB hE126 hsz
      replace hb1 := hb1.ext hE126
      replace hrc113 := hrc113.ext hE126
      replace ho114 := own_ext ho114 hE126
      replace hos114 := hos114.ext hE126
      replace hsz := Nat.le_trans hsz hE126.size
      refine l_q (q_pick_t (v := .bool _) rfl rfl rfl) ?_
      refine l_q (q_assign (v := .bool _) rfl rfl) ?_
      refine l_nil ?_
      refine r_forget [(8, .bool _)] ⟨rfl, trivial⟩ (fun e127 => ?_)
      refine r_ret_ (vs := [.bool _]) rfl Try.func5 rfl (.nil _) ⟨rfl, trivial⟩ ?_
      exact ⟨rfl, Ext.of_below hB⟩
end Go.Proofs.Ytkcbgpilfegofaa
