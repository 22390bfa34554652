/- Contracts. -/
import Derived.Test.YtkcbgpilfegofaaE6
import Derived.Test.YtkcbgpilfegofaaE4
set_option linter.unusedVariables false
set_option linter.unusedSimpArgs false
namespace Go.Proofs.Ytkcbgpilfegofaa
open Go Go.RowKit Go.Gv Go.Fl


theorem flashTruth_ret (a : Option Addr) (cc : Nat) (c : List Sg) (ta : Option Addr) (tc : Nat) (t : List Int) (wa : Option Addr) (wc : Nat) (ws : List Int) (er : Int) (w : World) (hrow : Row w a c.length cc 1 (c.map vstr)) (hcn : c.length ≤ 2097152) (ht : Row w ta t.length tc 1 (t.map vint)) (htn : t.length ≤ 2097152) (hw : Row w wa ws.length wc 1 (ws.map (Value.int .u16))) (hwn : ws.length ≤ 2097152) (hwr : ∀ x ∈ ws, 0 ≤ x ∧ x ≤ 65535) (her : 0 ≤ er ∧ er ≤ 255) : Ret Try.prog 15 [.agg ⟨[.slice a c.length cc]⟩, .slice ta t.length tc, .slice wa ws.length wc, .int .u8 er] w (fun v w' => v = .bool true ∧ Ext w w') := by
  have hB := Below.refl w.heap.size w
  have hsz : w.heap.size ≤ w.heap.size := Nat.le_refl _
  refine ret_of_runs (args := [_, _, _, _]) Try.func15 rfl (Nat.le_of_ble_eq_true rfl) (by kernel_rfl) ?_
  refine r_seq ?_
  refine r_region' ?_
  refine l_o (o_box rfl rfl rfl ?_)
  intro b1 w1 hzl1 hzr1 _ hb1 hE1
  have hbs_b1 : w.heap.size ≤ b1 := Nat.le_trans hsz hzl1
  replace hB := below_ext hB hE1 hsz
  replace hsz := Nat.le_trans hsz hE1.size
  refine l_q (q_assign (v := .bool _) rfl rfl) ?_
  refine l_nil ?_
  refine r_forget [(1, .slice _ _ _), (2, .slice _ _ _), (3, .int _ _), (4, .pointer _)] ⟨rfl, rfl, rfl, rfl, trivial⟩ (fun e2 => ?_)
  refine r_seq ?_
  refine r_seq ?_
  refine r_region' ?_
  refine l_q (q_load_agg (n := 1) Try.isAgg24 Try.sizeOf24 rfl ((hb1.cells' (cs' := [_]) 0 1 rfl)) rfl rfl) ?_
  refine l_q (q_move (v := .slice _ _ _) rfl rfl) ?_
  refine l_o (o_call Try.call41 rfl (ready_ret _ _ _ _ _ _ _ (hrow.below hB) (by omega) (ht.below hB) (by omega)) rfl ?_)
  rintro _ w3 ⟨rfl, hE3⟩
  replace hB := below_ext hB hE3 hsz
  replace hb1 := hb1.ext hE3
  replace hsz := Nat.le_trans hsz hE3.size
  refine l_q (q_not rfl rfl) ?_
  refine l_nil ?_
  refine r_forget [(1, .slice _ _ _), (2, .slice _ _ _), (3, .int _ _), (4, .pointer _), (22, .bool _)] ⟨rfl, rfl, rfl, rfl, rfl, trivial⟩ (fun e4 => ?_)
  refine r_cond rfl (fun hc5 => ?_) (fun hc5 => ?_)
  · skip
    try simp only [decide_eq_true_eq, decide_eq_false_iff_not, Bool.not_eq_true', Bool.not_eq_false', Bool.not_not, Bool.not_true, Bool.not_false, Bool.not_eq_true, Bool.not_eq_false, Int.not_lt, Int.not_le, Bool.and_eq_true, Bool.or_eq_true, Bool.and_eq_false_iff, Bool.or_eq_false_iff] at hc5
    refine r_seq ?_
    refine r_region' ?_
    refine l_o (o_call Try.call18 rfl (awake_ret _) rfl ?_)
    rintro _ w6 ⟨rfl, hE6⟩
    replace hB := below_ext hB hE6 hsz
    replace hb1 := hb1.ext hE6
    replace hsz := Nat.le_trans hsz hE6.size
    refine l_q (q_assign (v := .bool _) rfl rfl) ?_
    refine l_nil ?_
    refine r_forget [(8, .bool _)] ⟨rfl, trivial⟩ (fun e7 => ?_)
    refine r_ret_ (vs := [.bool _]) rfl Try.func15 rfl (.nil _) ⟨rfl, trivial⟩ ?_
    exact ⟨rfl, Ext.of_below hB⟩
  · skip
    try simp only [decide_eq_true_eq, decide_eq_false_iff_not, Bool.not_eq_true', Bool.not_eq_false', Bool.not_not, Bool.not_true, Bool.not_false, Bool.not_eq_true, Bool.not_eq_false, Int.not_lt, Int.not_le, Bool.and_eq_true, Bool.or_eq_true, Bool.and_eq_false_iff, Bool.or_eq_false_iff] at hc5
    obtain ⟨hcl, hfc, ht5, htx⟩ := ready_all (show readyB c t = true by simpa using hc5)
    have hsl := signs_len hfc htx
    have hfc6 := (fault_zero hfc).1
    have her4 : 0 ≤ er % 4 ∧ er % 4 ≤ 3 := by omega
    have hsd : send c t = (signs c t, 0) := by rw [send, if_neg (by simpa using hfc), if_neg (by omega), if_pos htx]
    refine r_skip ?_
    refine r_seq ?_
    refine r_region' ?_
    refine l_q (q_move (v := .int _ _) rfl rfl) ?_
    refine l_q (q_toInt Try.underlying5 Try.underlying3 rfl (by omega) rfl) ?_
    refine l_q (q_rem rfl rfl (by omega) rfl) ?_
    refine l_q (q_assign (v := .int _ _) rfl rfl) ?_
    refine l_nil ?_
    refine r_forget [(1, .slice _ _ _), (2, .slice _ _ _), (4, .pointer _), (9, .int _ _)] ⟨rfl, rfl, rfl, rfl, trivial⟩ (fun e8 => ?_)
    refine r_seq ?_
    refine r_region' ?_
    refine l_q (q_load_agg (n := 1) Try.isAgg24 Try.sizeOf24 rfl ((hb1.cells' (cs' := [_]) 0 1 rfl)) rfl rfl) ?_
    refine l_q (q_move (v := .slice _ _ _) rfl rfl) ?_
    refine l_o (o_call Try.call25 rfl (refSigns_ret _ _ _ _ _ _ _ (hrow.below hB) (by omega) (ht.below hB) (by omega) hfc htx) rfl ?_)
    rintro _ w9 ⟨rfl, hE9⟩
    replace hB := below_ext hB hE9 hsz
    replace hb1 := hb1.ext hE9
    replace hsz := Nat.le_trans hsz hE9.size
    refine l_q (q_assign (v := .string _) rfl rfl) ?_
    refine l_nil ?_
    refine r_forget [(1, .slice _ _ _), (2, .slice _ _ _), (4, .pointer _), (9, .int _ _), (10, .string _)] ⟨rfl, rfl, rfl, rfl, rfl, trivial⟩ (fun e10 => ?_)
    refine r_seq ?_
    refine r_region' ?_
    refine l_q (q_move (v := .string _) rfl rfl) ?_
    refine l_q (q_move (v := .slice _ _ _) rfl rfl) ?_
    refine l_q (q_move (v := .int _ _) rfl rfl) ?_
    refine l_o (o_call Try.call48 rfl (misread_ret (signs c t) _ _ ws (er % 4) _ (by omega) (signs_signs hfc htx) (hw.below hB) hwn hwr (by omega)) rfl ?_)
    rintro _ w11 ⟨out, ys, nn, oay, ocy, rfl, hoy11, hmis, hE11⟩
    replace hoy11 := own_mono hoy11 (show w.heap.size ≤ _ by omega)
    replace hB := below_ext hB hE11 hsz
    replace hb1 := hb1.ext hE11
    replace hsz := Nat.le_trans hsz hE11.size
    obtain ⟨hmo, hmy, hml, hmd, hmn0, hmn⟩ := hmis
    refine l_q (q_move (v := .tuple _) rfl rfl) ?_
    refine l_q (q_extract (vs := [_, _]) (v := .string _) rfl rfl rfl) ?_
    refine l_q (q_extract (vs := [_, _]) (v := .slice _ _ _) rfl rfl rfl) ?_
    refine l_q (q_assign (v := .string _) rfl rfl) ?_
    refine l_q (q_assign (v := .slice _ _ _) rfl rfl) ?_
    refine l_nil ?_
    refine r_forget [(1, .slice _ _ _), (4, .pointer _), (9, .int _ _), (10, .string _), (11, .string _), (12, .slice _ _ _)] ⟨rfl, rfl, rfl, rfl, rfl, rfl, trivial⟩ (fun e12 => ?_)
    refine r_seq ?_
    refine r_seq ?_
    refine r_region' ?_
    refine l_q (q_move (v := .string _) rfl rfl) ?_
    refine l_q (q_len_str rfl Try.underlying9 rfl rfl) ?_
    refine l_q (q_gtr rfl rfl rfl) ?_
    refine l_nil ?_
    refine r_forget [(1, .slice _ _ _), (4, .pointer _), (9, .int _ _), (10, .string _), (11, .string _), (12, .slice _ _ _), (39, .bool _)] ⟨rfl, rfl, rfl, rfl, rfl, rfl, rfl, trivial⟩ (fun e13 => ?_)
    refine r_cond rfl (fun hc14 => ?_) (fun hc14 => ?_)
    · skip
      try simp only [decide_eq_true_eq, decide_eq_false_iff_not, Bool.not_eq_true', Bool.not_eq_false', Bool.not_not, Bool.not_true, Bool.not_false, Bool.not_eq_true, Bool.not_eq_false, Int.not_lt, Int.not_le, Bool.and_eq_true, Bool.or_eq_true, Bool.and_eq_false_iff, Bool.or_eq_false_iff] at hc14
      refine r_seq ?_
      refine r_region' ?_
      refine l_o (o_call Try.call18 rfl (awake_ret _) rfl ?_)
      rintro _ w15 ⟨rfl, hE15⟩
      replace hB := below_ext hB hE15 hsz
      replace hb1 := hb1.ext hE15
      replace hoy11 := own_ext hoy11 hE15
      replace hsz := Nat.le_trans hsz hE15.size
      refine l_q (q_assign (v := .bool _) rfl rfl) ?_
      refine l_nil ?_
      refine r_forget [(8, .bool _)] ⟨rfl, trivial⟩ (fun e16 => ?_)
      refine r_ret_ (vs := [.bool _]) rfl Try.func15 rfl (.nil _) ⟨rfl, trivial⟩ ?_
      exact ⟨rfl, Ext.of_below hB⟩
    · skip
      try simp only [decide_eq_true_eq, decide_eq_false_iff_not, Bool.not_eq_true', Bool.not_eq_false', Bool.not_not, Bool.not_true, Bool.not_false, Bool.not_eq_true, Bool.not_eq_false, Int.not_lt, Int.not_le, Bool.and_eq_true, Bool.or_eq_true, Bool.and_eq_false_iff, Bool.or_eq_false_iff] at hc14
      have hol : out.length ≤ 40 := by omega
      have hsf : signsFault (signs c t) out = 0 := sf_mk (by omega) hol (signs_signs hfc htx) hmo
      obtain ⟨he2, he1, hen⟩ := doS_errs hsf hmd
      have hck : chk [out] = 0 := by rw [chk_sf]; exact (sf_mk hol (by simp) hmo rfl)
      have hte : txErr c out (er % 4) (t.length : Int) = 0 := txErr_zero hfc hck ⟨her4, by omega⟩
      have htr := txL_spec hte
      rw [Int.toNat_natCast] at htr
      have hin : t ∈ texts c out (er % 4) t.length := mem_texts.2 ⟨Nat.le_refl _, htx, by omega⟩
      have hpv := prov_yes hsf hmd hmn
      refine r_skip ?_
      refine r_seq ?_
      refine r_region' ?_
      refine l_q (q_load_agg (n := 1) Try.isAgg24 Try.sizeOf24 rfl ((hb1.cells' (cs' := [_]) 0 1 rfl)) rfl rfl) ?_
      refine l_o (o_call Try.call20 rfl (code_ret _ _ c _ (hrow.below hB) (by omega)) rfl ?_)
      rintro _ w17 ⟨ca17, cc17, rfl, hrc17, hE17⟩
      replace hB := below_ext hB hE17 hsz
      replace hb1 := hb1.ext hE17
      replace hoy11 := own_ext hoy11 hE17
      replace hsz := Nat.le_trans hsz hE17.size
      refine l_q (q_move (v := .slice _ _ _) rfl rfl) ?_
      refine l_o (o_call Try.call22 rfl (list_ret _ _ t _ (ht.below hB) (by omega)) rfl ?_)
      rintro _ w18 ⟨a18_0, c18_0, rfl, ho18_0, hE18⟩
      replace ho18_0 := own_mono ho18_0 (show w.heap.size ≤ _ by omega)
      replace hB := below_ext hB hE18 hsz
      replace hb1 := hb1.ext hE18
      replace hoy11 := own_ext hoy11 hE18
      replace hrc17 := hrc17.ext hE18
      replace hsz := Nat.le_trans hsz hE18.size
      refine l_o (o_call Try.call21 rfl (send_ret _ _ c _ _ t _ hrc17 (by omega) (Row.of_owns ho18_0) (by omega) hcl) rfl ?_)
      rintro _ w19 ⟨rfl, hE19⟩
      replace hB := below_ext hB hE19 hsz
      replace hb1 := hb1.ext hE19
      replace hoy11 := own_ext hoy11 hE19
      replace hrc17 := hrc17.ext hE19
      replace ho18_0 := own_ext ho18_0 hE19
      replace hsz := Nat.le_trans hsz hE19.size
      refine l_q (q_move (v := .tuple _) rfl rfl) ?_
      refine l_q (q_extract (vs := [_, _]) (v := .string _) rfl rfl rfl) ?_
      refine l_q (q_extract (vs := [_, _]) (v := .int _ _) rfl rfl rfl) ?_
      refine l_q (q_assign (v := .string _) rfl rfl) ?_
      refine l_q (q_assign (v := .int _ _) rfl rfl) ?_
      refine l_nil ?_
      refine r_forget [(1, .slice _ _ _), (4, .pointer _), (9, .int _ _), (10, .string _), (11, .string _), (12, .slice _ _ _), (13, .string _), (14, .int _ _)] ⟨rfl, rfl, rfl, rfl, rfl, rfl, rfl, rfl, trivial⟩ (fun e20 => ?_)
      refine r_seq ?_
      refine r_region' ?_
      refine l_q (q_load_agg (n := 1) Try.isAgg24 Try.sizeOf24 rfl ((hb1.cells' (cs' := [_]) 0 1 rfl)) rfl rfl) ?_
      refine l_o (o_call Try.call20 rfl (code_ret _ _ c _ (hrow.below hB) (by omega)) rfl ?_)
      rintro _ w21 ⟨ca21, cc21, rfl, hrc21, hE21⟩
      replace hB := below_ext hB hE21 hsz
      replace hb1 := hb1.ext hE21
      replace hoy11 := own_ext hoy11 hE21
      replace hrc17 := hrc17.ext hE21
      replace ho18_0 := own_ext ho18_0 hE21
      replace hsz := Nat.le_trans hsz hE21.size
      refine l_q (q_move (v := .string _) rfl rfl) ?_
      refine l_q (q_move (v := .int _ _) rfl rfl) ?_
      refine l_q (q_move (v := .slice _ _ _) rfl rfl) ?_
      refine l_q (q_len rfl Try.underlying25 rfl rfl) ?_
      refine l_o (o_call Try.call32 rfl (texts2_ret _ _ c out (er % 4) (t.length : Int) _ hrc21 (by omega) hcl (by omega)) rfl ?_)
      have hszp22 : w.heap.size ≤ w21.heap.size := hsz
      rintro _ w22 ⟨oa22, oc22, L22, rfl, ho22, hos22, hm22, hE22⟩
      replace ho22 := own_mono ho22 (show w.heap.size ≤ _ by omega)
      replace hB := below_ext hB hE22 hsz
      replace hb1 := hb1.ext hE22
      replace hoy11 := own_ext hoy11 hE22
      replace hrc17 := hrc17.ext hE22
      replace ho18_0 := own_ext ho18_0 hE22
      replace hrc21 := hrc21.ext hE22
      replace hsz := Nat.le_trans hsz hE22.size
      have hmt := (hm22).trans htr
      obtain ⟨hl5, _, hts⟩ := texts_sv hmt hfc6 ht5
      refine l_q (q_move (v := .tuple _) rfl rfl) ?_
      refine l_q (q_extract (vs := [_, _]) (v := .slice _ _ _) rfl rfl rfl) ?_
      refine l_q (q_extract (vs := [_, _]) (v := .int _ _) rfl rfl rfl) ?_
      refine l_q (q_assign (v := .slice _ _ _) rfl rfl) ?_
      refine l_q (q_assign (v := .int _ _) rfl rfl) ?_
      refine l_nil ?_
      refine r_forget [(1, .slice _ _ _), (9, .int _ _), (10, .string _), (11, .string _), (12, .slice _ _ _), (13, .string _), (14, .int _ _), (15, .slice _ _ _), (16, .int _ _)] ⟨rfl, rfl, rfl, rfl, rfl, rfl, rfl, rfl, rfl, trivial⟩ (fun e23 => ?_)
      refine r_seq ?_
      refine r_region' ?_
      refine l_q (q_move (v := .string _) rfl rfl) ?_
      refine l_q (q_move (v := .string _) rfl rfl) ?_
      refine l_o (o_call Try.call26 rfl (errors_ret (signs c t) out _ (by omega) (by omega)) rfl ?_)
      rintro _ w24 ⟨rfl, hE24⟩
      replace hB := below_ext hB hE24 hsz
      replace hb1 := hb1.ext hE24
      replace hoy11 := own_ext hoy11 hE24
      replace hrc17 := hrc17.ext hE24
      replace ho18_0 := own_ext ho18_0 hE24
      replace hrc21 := hrc21.ext hE24
      replace ho22 := own_ext ho22 hE24
      replace hos22 := hos22.ext hE24
      replace hsz := Nat.le_trans hsz hE24.size
      refine l_q (q_move (v := .tuple _) rfl rfl) ?_
      refine l_q (q_extract (vs := [_, _]) (v := .int _ _) rfl rfl rfl) ?_
      refine l_q (q_extract (vs := [_, _]) (v := .int _ _) rfl rfl rfl) ?_
      refine l_q (q_assign (v := .int _ _) rfl rfl) ?_
      refine l_q (q_assign (v := .int _ _) rfl rfl) ?_
      refine l_nil ?_
      refine r_forget [(1, .slice _ _ _), (9, .int _ _), (10, .string _), (11, .string _), (12, .slice _ _ _), (13, .string _), (14, .int _ _), (15, .slice _ _ _), (16, .int _ _), (17, .int _ _), (18, .int _ _)] ⟨rfl, rfl, rfl, rfl, rfl, rfl, rfl, rfl, rfl, rfl, rfl, trivial⟩ (fun e25 => ?_)
      refine r_seq ?_
      refine r_seq ?_
      refine r_region' ?_
      refine l_q (q_move (v := .int _ _) rfl rfl) ?_
      refine l_q (q_neq rfl rfl rfl) ?_
      refine l_q (q_move (v := .bool _) rfl rfl) ?_
      have hk26 : (!decide (((send c t).2) = 0)) = false := by rw [hsd]; rfl
      refine l_part 67 rfl (fun hx => absurd (hk26.symm.trans hx) (by decide)) (fun _ => ?_)
      refine l_q (q_move (v := .string _) rfl rfl) ?_
      refine l_q (q_move (v := .string _) rfl rfl) ?_
      refine l_q (q_neq_str rfl rfl rfl) ?_
      refine l_q (q_pick_f (v := .bool _) rfl rfl rfl) ?_
      refine l_q (q_move (v := .bool _) rfl rfl) ?_
      have hk27 : (!decide (((send c t).1) = (signs c t))) = false := by rw [hsd]; simp
      refine l_part 72 rfl (fun hx => absurd (hk27.symm.trans hx) (by decide)) (fun _ => ?_)
      refine l_q (q_move (v := .int _ _) rfl rfl) ?_
      refine l_q (q_neq rfl rfl rfl) ?_
      refine l_q (q_pick_f (v := .bool _) rfl rfl rfl) ?_
      refine l_q (q_move (v := .bool _) rfl rfl) ?_
      have hk28 : (!decide ((txErr c out (er % 4) (t.length : Int)) = 0)) = false := by rw [hte]; rfl
      refine l_part 76 rfl (fun hx => absurd (hk28.symm.trans hx) (by decide)) (fun _ => ?_)
      refine l_q (q_move (v := .int _ _) rfl rfl) ?_
      refine l_q (q_neq rfl rfl rfl) ?_
      refine l_q (q_pick_f (v := .bool _) rfl rfl rfl) ?_
      refine l_q (q_move (v := .bool _) rfl rfl) ?_
      have hk29 : (!decide (((errs (signs c t) out).2) = 0)) = false := by rw [he2]; rfl
      refine l_part 80 rfl (fun hx => absurd (hk29.symm.trans hx) (by decide)) (fun _ => ?_)
      refine l_q (q_move (v := .int _ _) rfl rfl) ?_
      refine l_q (q_move (v := .int _ _) rfl rfl) ?_
      refine l_q (q_gtr rfl rfl rfl) ?_
      refine l_q (q_pick_f (v := .bool _) rfl rfl rfl) ?_
      refine l_q (q_move (v := .bool _) rfl rfl) ?_
      have hk30 : (decide ((er % 4) < ((errs (signs c t) out).1))) = false := by rw [decide_eq_false_iff_not]; omega
      refine l_part 85 rfl (fun hx => absurd (hk30.symm.trans hx) (by decide)) (fun _ => ?_)
      refine l_q (q_move (v := .string _) rfl rfl) ?_
      refine l_q (q_move (v := .string _) rfl rfl) ?_
      refine l_q (q_move (v := .slice _ _ _) rfl rfl) ?_
      refine l_o (o_call Try.call22 rfl (list_ret _ _ ys _ (Row.of_owns hoy11) (by omega)) rfl ?_)
      rintro _ w31 ⟨a31_0, c31_0, rfl, ho31_0, hE31⟩
      replace ho31_0 := own_mono ho31_0 (show w.heap.size ≤ _ by omega)
      replace hB := below_ext hB hE31 hsz
      replace hb1 := hb1.ext hE31
      replace hoy11 := own_ext hoy11 hE31
      replace hrc17 := hrc17.ext hE31
      replace ho18_0 := own_ext ho18_0 hE31
      replace hrc21 := hrc21.ext hE31
      replace ho22 := own_ext ho22 hE31
      replace hos22 := hos22.ext hE31
      replace hsz := Nat.le_trans hsz hE31.size
      refine l_q (q_move (v := .int _ _) rfl rfl) ?_
      refine l_o (o_call Try.call47 rfl (prove_ret (signs c t) out _ _ ys (er % 4) _ (by omega) (by omega) (Row.of_owns ho31_0) (by omega) (by omega)) rfl ?_)
      rintro _ w32 ⟨rfl, hE32⟩
      replace hB := below_ext hB hE32 hsz
      replace hb1 := hb1.ext hE32
      replace hoy11 := own_ext hoy11 hE32
      replace hrc17 := hrc17.ext hE32
      replace ho18_0 := own_ext ho18_0 hE32
      replace hrc21 := hrc21.ext hE32
      replace ho22 := own_ext ho22 hE32
      replace hos22 := hos22.ext hE32
      replace ho31_0 := own_ext ho31_0 hE32
      replace hsz := Nat.le_trans hsz hE32.size
      refine l_q (q_not rfl rfl) ?_
      refine l_q (q_pick_f (v := .bool _) rfl rfl rfl) ?_
      refine l_nil ?_
      refine r_forget [(1, .slice _ _ _), (15, .slice _ _ _), (93, .bool _)] ⟨rfl, rfl, rfl, trivial⟩ (fun e33 => ?_)
      have hk34 : (!(provB (signs c t) out ys (er % 4))) = false := by rw [hpv]; rfl
      refine r_cond_f ((congrArg Value.bool hk34 : Value.bool _ = _)) ?_
      refine r_skip ?_
      refine r_seq ?_
      refine r_region' ?_
      refine l_q (q_move (v := .slice _ _ _) rfl rfl) ?_
      refine l_q (q_move (v := .slice _ _ _) rfl rfl) ?_
      refine l_o (o_call Try.call42 rfl (lhas_ret _ _ L22 _ _ t _ (Row.of_owns ho22) hos22.rows (by omega) hts (ht.below hB) (by omega)) rfl ?_)
      rintro _ w35 ⟨rfl, hE35⟩
      replace hB := below_ext hB hE35 hsz
      replace hb1 := hb1.ext hE35
      replace hoy11 := own_ext hoy11 hE35
      replace hrc17 := hrc17.ext hE35
      replace ho18_0 := own_ext ho18_0 hE35
      replace hrc21 := hrc21.ext hE35
      replace ho22 := own_ext ho22 hE35
      replace hos22 := hos22.ext hE35
      replace ho31_0 := own_ext ho31_0 hE35
      replace hsz := Nat.le_trans hsz hE35.size
      refine l_q (q_move (v := .bool _) rfl rfl) ?_
      have hk36 : (((L22).map (·.xs)).contains t) = true := by rw [List.contains_iff_mem, hmt]; exact hin
      refine l_part 97 rfl (fun _ => ?_) (fun hx => absurd (hk36.symm.trans hx) (by decide))
      refine l_o (o_call Try.call18 rfl (awake_ret _) rfl ?_)
      rintro _ w37 ⟨rfl, hE37⟩
      replace hB := below_ext hB hE37 hsz
      replace hb1 := hb1.ext hE37
      replace hoy11 := own_ext hoy11 hE37
      replace hrc17 := hrc17.ext hE37
      replace ho18_0 := own_ext ho18_0 hE37
      replace hrc21 := hrc21.ext hE37
      replace ho22 := own_ext ho22 hE37
      replace hos22 := hos22.ext hE37
      replace ho31_0 := own_ext ho31_0 hE37
      replace hsz := Nat.le_trans hsz hE37.size
      refine l_q (q_pick_t (v := .bool _) rfl rfl rfl) ?_
      refine l_q (q_assign (v := .bool _) rfl rfl) ?_
      refine l_nil ?_
      refine r_forget [(8, .bool _)] ⟨rfl, trivial⟩ (fun e38 => ?_)
      refine r_ret_ (vs := [.bool _]) rfl Try.func15 rfl (.nil _) ⟨rfl, trivial⟩ ?_
      exact ⟨rfl, Ext.of_below hB⟩
end Go.Proofs.Ytkcbgpilfegofaa
