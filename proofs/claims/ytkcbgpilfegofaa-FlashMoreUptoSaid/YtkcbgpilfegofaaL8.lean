/- Contracts. -/
import Derived.Test.YtkcbgpilfegofaaE4
set_option linter.unusedVariables false
set_option linter.unusedSimpArgs false
namespace Go.Proofs.Ytkcbgpilfegofaa
open Go Go.RowKit Go.Gv Go.Fl


theorem flashMore_ret (a : Option Addr) (cc : Nat) (c : List Sg) (rd : Sg) (er le : Int) (w : World) (hrow : Row w a c.length cc 1 (c.map vstr)) (hcn : c.length ≤ 2097152) (hrd : rd.length ≤ 2097152) (her : 0 ≤ er ∧ er ≤ 255) (hle : 0 ≤ le ∧ le ≤ 255) : Ret Try.prog 8 [.agg ⟨[.slice a c.length cc]⟩, vstr rd, .int .u8 er, .int .u8 le] w (fun v w' => v = .bool true ∧ Ext w w') := by
  have hB := Below.refl w.heap.size w
  have hsz : w.heap.size ≤ w.heap.size := Nat.le_refl _
  refine ret_of_runs (args := [_, _, _, _]) Try.func8 rfl (Nat.le_of_ble_eq_true rfl) (by kernel_rfl) ?_
  refine r_seq ?_
  refine r_region' ?_
  refine l_o (o_box rfl rfl rfl ?_)
  intro b1 w1 hzl1 hzr1 _ hb1 hE1
  have hbs_b1 : w.heap.size ≤ b1 := Nat.le_trans hsz hzl1
  replace hB := below_ext hB hE1 hsz
  replace hsz := Nat.le_trans hsz hE1.size
  refine l_q (q_assign (v := .bool _) rfl rfl) ?_
  refine l_nil ?_
  refine r_forget [(1, .string _), (2, .int _ _), (3, .int _ _), (4, .pointer _)] ⟨rfl, rfl, rfl, rfl, trivial⟩ (fun e2 => ?_)
  refine r_seq ?_
  refine r_seq ?_
  refine r_region' ?_
  refine l_q (q_load_agg (n := 1) Try.isAgg24 Try.sizeOf24 rfl ((hb1.cells' (cs' := [_]) 0 1 rfl)) rfl rfl) ?_
  refine l_o (o_call Try.call41 rfl (ready_ret _ _ c none 0 [] _ (hrow.below hB) (by omega) (Row.nil _ _ _ _) (by decide)) rfl ?_)
  rintro _ w3 ⟨rfl, hE3⟩
  replace hB := below_ext hB hE3 hsz
  replace hb1 := hb1.ext hE3
  replace hsz := Nat.le_trans hsz hE3.size
  refine l_q (q_not rfl rfl) ?_
  refine l_q (q_move (v := .bool _) rfl rfl) ?_
  refine l_part 21 rfl (fun hc4 => ?_) (fun hc4 => ?_)
  · skip
    try simp only [decide_eq_true_eq, decide_eq_false_iff_not, Bool.not_eq_true', Bool.not_eq_false', Bool.not_not, Bool.not_true, Bool.not_false, Bool.not_eq_true, Bool.not_eq_false, Int.not_lt, Int.not_le, Bool.and_eq_true, Bool.or_eq_true, Bool.and_eq_false_iff, Bool.or_eq_false_iff] at hc4
    refine l_q (q_skip rfl) ?_
    refine l_q (q_skip rfl) ?_
    refine l_q (q_skip rfl) ?_
    refine l_q (q_pick_t (v := .bool _) rfl rfl rfl) ?_
    refine l_nil ?_
    refine r_forget [(1, .string _), (2, .int _ _), (3, .int _ _), (4, .pointer _), (25, .bool _)] ⟨rfl, rfl, rfl, rfl, rfl, trivial⟩ (fun e5 => ?_)
    refine r_cond_t rfl ?_
    refine r_seq ?_
    refine r_region' ?_
    refine l_o (o_call Try.call18 rfl (awake_ret _) rfl ?_)
    rintro _ w6 ⟨rfl, hE6⟩
    replace hB := below_ext hB hE6 hsz
    replace hb1 := hb1.ext hE6
    replace hsz := Nat.le_trans hsz hE6.size
    refine l_q (q_assign (v := .bool _) rfl rfl) ?_
    refine l_nil ?_
    refine r_forget [(8, .bool _)] ⟨rfl, trivial⟩ (fun e7 => ?_)
    refine r_ret_ (vs := [.bool _]) rfl Try.func8 rfl (.nil _) ⟨rfl, trivial⟩ ?_
    exact ⟨rfl, Ext.of_below hB⟩
  · skip
    try simp only [decide_eq_true_eq, decide_eq_false_iff_not, Bool.not_eq_true', Bool.not_eq_false', Bool.not_not, Bool.not_true, Bool.not_false, Bool.not_eq_true, Bool.not_eq_false, Int.not_lt, Int.not_le, Bool.and_eq_true, Bool.or_eq_true, Bool.and_eq_false_iff, Bool.or_eq_false_iff] at hc4
    obtain ⟨hcl, hfc, _, _⟩ := ready_all (show readyB c [] = true by simpa using hc4)
    have hfc6 := (fault_zero hfc).1
    refine l_q (q_move (v := .string _) rfl rfl) ?_
    refine l_o (o_call Try.call28 rfl (signed_ret _ _ _ (by omega) (by omega)) rfl ?_)
    rintro _ w8 ⟨rfl, rfl⟩
    refine l_q (q_neq rfl rfl rfl) ?_
    refine l_q (q_pick_f (v := .bool _) rfl rfl rfl) ?_
    refine l_nil ?_
    refine r_forget [(1, .string _), (2, .int _ _), (3, .int _ _), (4, .pointer _), (25, .bool _)] ⟨rfl, rfl, rfl, rfl, rfl, trivial⟩ (fun e9 => ?_)
    refine r_cond rfl (fun hc10 => ?_) (fun hc10 => ?_)
    · skip
      try simp only [decide_eq_true_eq, decide_eq_false_iff_not, Bool.not_eq_true', Bool.not_eq_false', Bool.not_not, Bool.not_true, Bool.not_false, Bool.not_eq_true, Bool.not_eq_false, Int.not_lt, Int.not_le, Bool.and_eq_true, Bool.or_eq_true, Bool.and_eq_false_iff, Bool.or_eq_false_iff] at hc10
      refine r_seq ?_
      refine r_region' ?_
      refine l_o (o_call Try.call18 rfl (awake_ret _) rfl ?_)
      rintro _ w11 ⟨rfl, hE11⟩
      replace hB := below_ext hB hE11 hsz
      replace hb1 := hb1.ext hE11
      replace hsz := Nat.le_trans hsz hE11.size
      refine l_q (q_assign (v := .bool _) rfl rfl) ?_
      refine l_nil ?_
      refine r_forget [(8, .bool _)] ⟨rfl, trivial⟩ (fun e12 => ?_)
      refine r_ret_ (vs := [.bool _]) rfl Try.func8 rfl (.nil _) ⟨rfl, trivial⟩ ?_
      exact ⟨rfl, Ext.of_below hB⟩
    · skip
      try simp only [decide_eq_true_eq, decide_eq_false_iff_not, Bool.not_eq_true', Bool.not_eq_false', Bool.not_not, Bool.not_true, Bool.not_false, Bool.not_eq_true, Bool.not_eq_false, Int.not_lt, Int.not_le, Bool.and_eq_true, Bool.or_eq_true, Bool.and_eq_false_iff, Bool.or_eq_false_iff] at hc10
      have hck : chk [rd] = 0 := by rw [chk_sf]; simpa using hc10
      refine r_skip ?_
      refine r_seq ?_
      refine r_region' ?_
      refine l_q (q_move (v := .int _ _) rfl rfl) ?_
      refine l_q (q_toInt Try.underlying5 Try.underlying3 rfl (by omega) rfl) ?_
      refine l_q (q_rem rfl rfl (by omega) rfl) ?_
      refine l_q (q_move (v := .int _ _) rfl rfl) ?_
      refine l_q (q_toInt Try.underlying5 Try.underlying3 rfl (by omega) rfl) ?_
      refine l_q (q_rem rfl rfl (by omega) rfl) ?_
      refine l_q (q_assign (v := .int _ _) rfl rfl) ?_
      refine l_q (q_assign (v := .int _ _) rfl rfl) ?_
      refine l_nil ?_
      refine r_forget [(1, .string _), (4, .pointer _), (9, .int _ _), (10, .int _ _)] ⟨rfl, rfl, rfl, rfl, trivial⟩ (fun e13 => ?_)
      refine r_seq ?_
      obtain ⟨n, hn⟩ : ∃ n : Nat, le % 4 = n := ⟨(le % 4).toNat, by omega⟩
      have hn4 : n ≤ 3 := by omega
      refine r_forget [(1, .string _), (4, .pointer _), (9, .int _ _), (10, vint (n : Int))] ⟨rfl, rfl, rfl, vint_eq hn, trivial⟩ (fun e14 => ?_)
      refine r_region' ?_
      refine l_q (q_load_agg (n := 1) Try.isAgg24 Try.sizeOf24 rfl ((hb1.cells' (cs' := [_]) 0 1 rfl)) rfl rfl) ?_
      refine l_o (o_call Try.call20 rfl (code_ret _ _ c _ (hrow.below hB) (by omega)) rfl ?_)
      rintro _ w15 ⟨ca15, cc15, rfl, hrc15, hE15⟩
      replace hB := below_ext hB hE15 hsz
      replace hb1 := hb1.ext hE15
      replace hsz := Nat.le_trans hsz hE15.size
      refine l_q (q_move (v := .string _) rfl rfl) ?_
      refine l_q (q_move (v := .int _ _) rfl rfl) ?_
      refine l_q (q_move (v := .int _ _) rfl rfl) ?_
      refine l_o (o_call Try.call32 rfl ((by have h := texts2_ret _ _ c rd (er % 3) ((n : Nat) : Int) _ hrc15 (by omega) hcl (by omega); exact h)) rfl ?_)
      have hszp16 : w.heap.size ≤ w15.heap.size := hsz
      rintro _ w16 ⟨oa16, oc16, L16, rfl, ho16, hos16, hm16, hE16⟩
      replace ho16 := own_mono ho16 (show w.heap.size ≤ _ by omega)
      replace hB := below_ext hB hE16 hsz
      replace hb1 := hb1.ext hE16
      replace hrc15 := hrc15.ext hE16
      replace hsz := Nat.le_trans hsz hE16.size
      have hEA : txErr c rd (er % 3) ((n : Nat) : Int) = 0 := txErr_zero hfc hck (by omega)
      have hMA := (hm16).trans (txL_spec hEA)
      rw [Int.toNat_natCast] at hMA
      obtain ⟨hlA, hsA, htA⟩ := texts_sv hMA hfc6 (by omega)
      refine l_q (q_move (v := .tuple _) rfl rfl) ?_
      refine l_q (q_extract (vs := [_, _]) (v := .slice _ _ _) rfl rfl rfl) ?_
      refine l_q (q_extract (vs := [_, _]) (v := .int _ _) rfl rfl rfl) ?_
      refine l_q (q_assign (v := .slice _ _ _) rfl rfl) ?_
      refine l_q (q_assign (v := .int _ _) rfl rfl) ?_
      refine l_nil ?_
      refine r_forget [(1, .string _), (4, .pointer _), (9, .int _ _), (10, .int _ _), (11, .slice _ _ _), (12, .int _ _)] ⟨rfl, rfl, rfl, rfl, rfl, rfl, trivial⟩ (fun e17 => ?_)
      refine r_seq ?_
      refine r_region' ?_
      refine l_q (q_load_agg (n := 1) Try.isAgg24 Try.sizeOf24 rfl ((hb1.cells' (cs' := [_]) 0 1 rfl)) rfl rfl) ?_
      refine l_o (o_call Try.call20 rfl (code_ret _ _ c _ (hrow.below hB) (by omega)) rfl ?_)
      rintro _ w18 ⟨ca18, cc18, rfl, hrc18, hE18⟩
      replace hB := below_ext hB hE18 hsz
      replace hb1 := hb1.ext hE18
      replace hrc15 := hrc15.ext hE18
      replace ho16 := own_ext ho16 hE18
      replace hos16 := hos16.ext hE18
      replace hsz := Nat.le_trans hsz hE18.size
      refine l_q (q_move (v := .string _) rfl rfl) ?_
      refine l_q (q_move (v := .int _ _) rfl rfl) ?_
      refine l_q (q_add rfl rfl (by omega) rfl) ?_
      refine l_q (q_move (v := .int _ _) rfl rfl) ?_
      refine l_o (o_call Try.call32 rfl ((by have h := texts2_ret _ _ c rd (er % 3 + 1) ((n : Nat) : Int) _ hrc18 (by omega) hcl (by omega); exact h)) rfl ?_)
      have hszp19 : w.heap.size ≤ w18.heap.size := hsz
      rintro _ w19 ⟨oa19, oc19, L19, rfl, ho19, hos19, hm19, hE19⟩
      replace ho19 := own_mono ho19 (show w.heap.size ≤ _ by omega)
      replace hB := below_ext hB hE19 hsz
      replace hb1 := hb1.ext hE19
      replace hrc15 := hrc15.ext hE19
      replace ho16 := own_ext ho16 hE19
      replace hos16 := hos16.ext hE19
      replace hrc18 := hrc18.ext hE19
      replace hsz := Nat.le_trans hsz hE19.size
      have hEB : txErr c rd (er % 3 + 1) ((n : Nat) : Int) = 0 := txErr_zero hfc hck (by omega)
      have hMB := (hm19).trans (txL_spec hEB)
      rw [Int.toNat_natCast] at hMB
      obtain ⟨hlB, hsB, htB⟩ := texts_sv hMB hfc6 (by omega)
      refine l_q (q_move (v := .tuple _) rfl rfl) ?_
      refine l_q (q_extract (vs := [_, _]) (v := .slice _ _ _) rfl rfl rfl) ?_
      refine l_q (q_extract (vs := [_, _]) (v := .int _ _) rfl rfl rfl) ?_
      refine l_q (q_assign (v := .slice _ _ _) rfl rfl) ?_
      refine l_q (q_assign (v := .int _ _) rfl rfl) ?_
      refine l_nil ?_
      refine r_forget [(1, .string _), (4, .pointer _), (9, .int _ _), (10, .int _ _), (11, .slice _ _ _), (12, .int _ _), (13, .slice _ _ _), (14, .int _ _)] ⟨rfl, rfl, rfl, rfl, rfl, rfl, rfl, rfl, trivial⟩ (fun e20 => ?_)
      refine r_seq ?_
      refine r_region' ?_
      refine l_q (q_load_agg (n := 1) Try.isAgg24 Try.sizeOf24 rfl ((hb1.cells' (cs' := [_]) 0 1 rfl)) rfl rfl) ?_
      refine l_o (o_call Try.call20 rfl (code_ret _ _ c _ (hrow.below hB) (by omega)) rfl ?_)
      rintro _ w21 ⟨ca21, cc21, rfl, hrc21, hE21⟩
      replace hB := below_ext hB hE21 hsz
      replace hb1 := hb1.ext hE21
      replace hrc15 := hrc15.ext hE21
      replace ho16 := own_ext ho16 hE21
      replace hos16 := hos16.ext hE21
      replace hrc18 := hrc18.ext hE21
      replace ho19 := own_ext ho19 hE21
      replace hos19 := hos19.ext hE21
      replace hsz := Nat.le_trans hsz hE21.size
      refine l_q (q_move (v := .string _) rfl rfl) ?_
      refine l_q (q_move (v := .int _ _) rfl rfl) ?_
      refine l_q (q_move (v := .int _ _) rfl rfl) ?_
      refine l_q (q_add rfl rfl (by omega) rfl) ?_
      refine l_o (o_call Try.call32 rfl ((by have h := texts2_ret _ _ c rd (er % 3) ((n + 1 : Nat) : Int) _ hrc21 (by omega) hcl (by omega); exact h)) rfl ?_)
      have hszp22 : w.heap.size ≤ w21.heap.size := hsz
      rintro _ w22 ⟨oa22, oc22, L22, rfl, ho22, hos22, hm22, hE22⟩
      replace ho22 := own_mono ho22 (show w.heap.size ≤ _ by omega)
      replace hB := below_ext hB hE22 hsz
      replace hb1 := hb1.ext hE22
      replace hrc15 := hrc15.ext hE22
      replace ho16 := own_ext ho16 hE22
      replace hos16 := hos16.ext hE22
      replace hrc18 := hrc18.ext hE22
      replace ho19 := own_ext ho19 hE22
      replace hos19 := hos19.ext hE22
      replace hrc21 := hrc21.ext hE22
      replace hsz := Nat.le_trans hsz hE22.size
      have hED : txErr c rd (er % 3) ((n + 1 : Nat) : Int) = 0 := txErr_zero hfc hck (by omega)
      have hMD := (hm22).trans (txL_spec hED)
      rw [Int.toNat_natCast] at hMD
      obtain ⟨hlD, hsD, htD⟩ := texts_sv hMD hfc6 (by omega)
      refine l_q (q_move (v := .tuple _) rfl rfl) ?_
      refine l_q (q_extract (vs := [_, _]) (v := .slice _ _ _) rfl rfl rfl) ?_
      refine l_q (q_extract (vs := [_, _]) (v := .int _ _) rfl rfl rfl) ?_
      refine l_q (q_assign (v := .slice _ _ _) rfl rfl) ?_
      refine l_q (q_assign (v := .int _ _) rfl rfl) ?_
      refine l_nil ?_
      refine r_forget [(10, .int _ _), (11, .slice _ _ _), (12, .int _ _), (13, .slice _ _ _), (14, .int _ _), (15, .slice _ _ _), (16, .int _ _)] ⟨rfl, rfl, rfl, rfl, rfl, rfl, rfl, trivial⟩ (fun e23 => ?_)
      refine r_seq ?_
      refine r_seq ?_
      refine r_region' ?_
      refine l_q (q_move (v := .int _ _) rfl rfl) ?_
      refine l_q (q_neq rfl rfl rfl) ?_
      refine l_q (q_move (v := .bool _) rfl rfl) ?_
      have hk24 : (!decide ((txErr c rd (er % 3) ((n : Nat) : Int)) = 0)) = false := by rw [hEA]; rfl
      refine l_part 64 rfl (fun hx => absurd (hk24.symm.trans hx) (by decide)) (fun _ => ?_)
      refine l_q (q_move (v := .int _ _) rfl rfl) ?_
      refine l_q (q_neq rfl rfl rfl) ?_
      refine l_q (q_pick_f (v := .bool _) rfl rfl rfl) ?_
      refine l_q (q_move (v := .bool _) rfl rfl) ?_
      have hk25 : (!decide ((txErr c rd (er % 3 + 1) ((n : Nat) : Int)) = 0)) = false := by rw [hEB]; rfl
      refine l_part 68 rfl (fun hx => absurd (hk25.symm.trans hx) (by decide)) (fun _ => ?_)
      refine l_q (q_move (v := .int _ _) rfl rfl) ?_
      refine l_q (q_neq rfl rfl rfl) ?_
      refine l_q (q_pick_f (v := .bool _) rfl rfl rfl) ?_
      refine l_nil ?_
      refine r_forget [(10, .int _ _), (11, .slice _ _ _), (13, .slice _ _ _), (15, .slice _ _ _), (71, .bool _)] ⟨rfl, rfl, rfl, rfl, rfl, trivial⟩ (fun e26 => ?_)
      have hk27 : (!decide ((txErr c rd (er % 3) ((n + 1 : Nat) : Int)) = 0)) = false := by rw [hED]; rfl
      refine r_cond_f ((congrArg Value.bool hk27 : Value.bool _ = _)) ?_
      refine r_skip ?_
      refine r_seq ?_
      refine r_seq ?_
      refine r_region' ?_
      refine l_q (q_assign (v := .int _ _) rfl rfl) ?_
      refine l_nil ?_
      refine r_forget [(10, .int _ _), (11, .slice _ _ _), (13, .slice _ _ _), (15, .slice _ _ _), (17, .int _ _)] ⟨rfl, rfl, rfl, rfl, rfl, trivial⟩ (fun e28 => ?_)
      refine r_block ?_
      refine r_rounds (α := Nat) (fun i e wl => Knows e [(10, vint (n : Int)), (11, .slice oa16 ((L16).length) oc16), (13, .slice oa19 ((L19).length) oc19), (15, .slice oa22 ((L22).length) oc22), (17, vint (i : Int))] ∧ (i ≤ (L16).length) ∧ (Blk wl b1 [.slice a c.length cc]) ∧ (Row wl ca15 ((c).length) cc15 1 ((c).map vstr)) ∧ (wl.ownsRow w.heap.size 25 1 (.slice oa16 ((L16).length) oc16) ((L16).length) ((L16).map SV.enc)) ∧ (OwnsI wl w15.heap.size 3 L16) ∧ (Row wl ca18 ((c).length) cc18 1 ((c).map vstr)) ∧ (wl.ownsRow w.heap.size 25 1 (.slice oa19 ((L19).length) oc19) ((L19).length) ((L19).map SV.enc)) ∧ (OwnsI wl w18.heap.size 3 L19) ∧ (Row wl ca21 ((c).length) cc21 1 ((c).map vstr)) ∧ (wl.ownsRow w.heap.size 25 1 (.slice oa22 ((L22).length) oc22) ((L22).length) ((L22).map SV.enc)) ∧ (OwnsI wl w21.heap.size 3 L22) ∧ (w.heap.size ≤ wl.heap.size) ∧ (Below w.heap.size w wl)) (fun i => (L16).length - i) 0 ?_ ?_
      · skip
        exact ⟨⟨rfl, rfl, rfl, rfl, rfl, trivial⟩, (Nat.zero_le _), hb1, hrc15, ho16, hos16, hrc18, ho19, hos19, hrc21, ho22, hos22, hsz, hB⟩
      · skip
        rintro i el29 wl29 ⟨hkn, hki, hb1, hrc15, ho16, hos16, hrc18, ho19, hos19, hrc21, ho22, hos22, hsz, hB⟩ ih29
        obtain ⟨e29, rfl⟩ := knows_env hkn
        refine r_seq ?_
        refine r_seq ?_
        refine r_region' ?_
        refine l_q (q_move (v := .int _ _) rfl rfl) ?_
        refine l_q (q_move (v := .slice _ _ _) rfl rfl) ?_
        refine l_q (q_len rfl Try.underlying48 rfl rfl) ?_
        refine l_q (q_lss rfl rfl rfl) ?_
        refine l_nil ?_
        refine r_forget [(10, .int _ _), (11, .slice _ _ _), (13, .slice _ _ _), (15, .slice _ _ _), (17, .int _ _), (75, .bool _)] ⟨rfl, rfl, rfl, rfl, rfl, rfl, trivial⟩ (fun e30 => ?_)
        refine r_cond rfl (fun hc31 => ?_) (fun hc31 => ?_)
        · skip
          try simp only [decide_eq_true_eq, decide_eq_false_iff_not, Bool.not_eq_true', Bool.not_eq_false', Bool.not_not, Bool.not_true, Bool.not_false, Bool.not_eq_true, Bool.not_eq_false, Int.not_lt, Int.not_le, Bool.and_eq_true, Bool.or_eq_true, Bool.and_eq_false_iff, Bool.or_eq_false_iff] at hc31
          have hi1 := Int.ofNat_lt.1 hc31
          have hin := more_in hMA hMB hi1 (by omega) (by omega)
          have hpre := more_pre hMA hMD hi1
          have hea := hsA _ (getD_lt (d := sv0) hi1)
          have hed := hsD _ (getD_lt (d := sv0) hpre.1)
          refine r_skip ?_
          refine r_seq ?_
          refine r_block ?_
          refine r_seq ?_
          refine r_draw ext_refl' ext_trans' [0, 1, 2, 3, 4, 5, 6, 7, 8, 9, 10, 11, 12, 13, 14, 15, 16, 17, 18, 19, 20, 21, 22, 23, 24, 25, 26, 27, 28, 29, 30, 31, 32, 33] [13, 31] 6 (by kernel_rfl) (by kernel_rfl) ?_
          intro w32 _ hE32
          replace hB := below_ext hB hE32 hsz
          replace hb1 := hb1.ext hE32
          replace hrc15 := hrc15.ext hE32
          replace ho16 := own_ext ho16 hE32
          replace hos16 := hos16.ext hE32
          replace hrc18 := hrc18.ext hE32
          replace ho19 := own_ext ho19 hE32
          replace hos19 := hos19.ext hE32
          replace hrc21 := hrc21.ext hE32
          replace ho22 := own_ext ho22 hE32
          replace hos22 := hos22.ext hE32
          replace hsz := Nat.le_trans hsz hE32.size
          refine m_q rfl rfl (fun w' hC' => q_move (v := .slice _ _ _) rfl rfl) ?_
          refine m_q rfl rfl (fun w' hC' => q_move (v := .int _ _) rfl rfl) ?_
          have hr34 := hos16.rows.get (i := i) (by omega)
          obtain ⟨b33, o33, ha33, hh33⟩ := (Row.of_owns ho16).at1 i ((L16).getD i sv0) (getD_some (by omega))
          refine m_q rfl rfl (fun w' hC' => q_indexAddr1 Try.underlying48 Try.sizeOf25 rfl ha33 rfl (by omega) rfl) ?_
          refine m_q rfl rfl (fun w' hC' => q_load Try.isAgg25 rfl ((hh33.ext hC')) rfl) ?_
          refine m_q rfl rfl (fun w' hC' => q_len rfl Try.underlying25 rfl rfl) ?_
          refine m_q rfl rfl (fun w' hC' => q_move (v := .int _ _) rfl rfl) ?_
          refine m_q rfl rfl (fun w' hC' => q_gtr rfl rfl rfl) ?_
          refine m_q rfl rfl (fun w' hC' => q_move (v := .bool _) rfl rfl) ?_
          have hk35 : (decide ((n : Int) < (((L16).getD i sv0).xs.length : Int))) = false := by rw [decide_eq_false_iff_not]; omega
          refine m_part 85 rfl (fun hx => absurd (hk35.symm.trans hx) (by decide)) (fun _ => ?_)
          refine m_q rfl rfl (fun w' hC' => q_move (v := .slice _ _ _) rfl rfl) ?_
          refine m_q rfl rfl (fun w' hC' => q_move (v := .slice _ _ _) rfl rfl) ?_
          refine m_q rfl rfl (fun w' hC' => q_move (v := .int _ _) rfl rfl) ?_
          have hr37 := hos16.rows.get (i := i) (by omega)
          obtain ⟨b36, o36, ha36, hh36⟩ := (Row.of_owns ho16).at1 i ((L16).getD i sv0) (getD_some (by omega))
          refine m_q rfl rfl (fun w' hC' => q_indexAddr1 Try.underlying48 Try.sizeOf25 rfl ha36 rfl (by omega) rfl) ?_
          refine m_q rfl rfl (fun w' hC' => q_load Try.isAgg25 rfl ((hh36.ext hC')) rfl) ?_
          refine m_o rfl rfl (o_call Try.call42 rfl (lhas_ret _ _ L19 _ _ (((L16).getD i sv0).xs) _ (Row.of_owns ho19) hos19.rows (by omega) htB hr37 (by omega)) rfl ?_)
          rintro _ w38 ⟨rfl, hE38⟩
          refine ⟨hE38, ?_⟩
          replace hB := below_ext hB hE38 hsz
          replace hb1 := hb1.ext hE38
          replace hrc15 := hrc15.ext hE38
          replace ho16 := own_ext ho16 hE38
          replace hos16 := hos16.ext hE38
          replace hrc18 := hrc18.ext hE38
          replace ho19 := own_ext ho19 hE38
          replace hos19 := hos19.ext hE38
          replace hrc21 := hrc21.ext hE38
          replace ho22 := own_ext ho22 hE38
          replace hos22 := hos22.ext hE38
          replace hr34 := hr34.ext hE38
          replace hr37 := hr37.ext hE38
          replace hsz := Nat.le_trans hsz hE38.size
          refine m_q rfl rfl (fun w' hC' => q_not rfl rfl) ?_
          refine m_q rfl rfl (fun w' hC' => q_pick_f (v := .bool _) rfl rfl rfl) ?_
          refine m_q rfl rfl (fun w' hC' => q_move (v := .bool _) rfl rfl) ?_
          have hk39 : (!(((L19).map (·.xs)).contains (((L16).getD i sv0).xs))) = false := by rw [hin]; rfl
          refine m_part 94 rfl (fun hx => absurd (hk39.symm.trans hx) (by decide)) (fun _ => ?_)
          refine m_q rfl rfl (fun w' hC' => q_move (v := .int _ _) rfl rfl) ?_
          refine m_q rfl rfl (fun w' hC' => q_move (v := .slice _ _ _) rfl rfl) ?_
          refine m_q rfl rfl (fun w' hC' => q_len rfl Try.underlying48 rfl rfl) ?_
          refine m_q rfl rfl (fun w' hC' => q_geq rfl rfl rfl) ?_
          refine m_q rfl rfl (fun w' hC' => q_pick_f (v := .bool _) rfl rfl rfl) ?_
          refine m_q rfl rfl (fun w' hC' => q_move (v := .bool _) rfl rfl) ?_
          have hk40 : (decide (((L22).length : Int) ≤ (i : Int))) = false := by rw [decide_eq_false_iff_not]; omega
          refine m_part 100 rfl (fun hx => absurd (hk40.symm.trans hx) (by decide)) (fun _ => ?_)
          refine m_q rfl rfl (fun w' hC' => q_move (v := .slice _ _ _) rfl rfl) ?_
          refine m_q rfl rfl (fun w' hC' => q_move (v := .int _ _) rfl rfl) ?_
          have hr42 := hos22.rows.get (i := i) (by omega)
          obtain ⟨b41, o41, ha41, hh41⟩ := (Row.of_owns ho22).at1 i ((L22).getD i sv0) (getD_some (by omega))
          refine m_q rfl rfl (fun w' hC' => q_indexAddr1 Try.underlying48 Try.sizeOf25 rfl ha41 rfl (by omega) rfl) ?_
          refine m_q rfl rfl (fun w' hC' => q_load Try.isAgg25 rfl ((hh41.ext hC')) rfl) ?_
          refine m_q rfl rfl (fun w' hC' => q_move (v := .slice _ _ _) rfl rfl) ?_
          refine m_q rfl rfl (fun w' hC' => q_move (v := .int _ _) rfl rfl) ?_
          have hr44 := hos16.rows.get (i := i) (by omega)
          obtain ⟨b43, o43, ha43, hh43⟩ := (Row.of_owns ho16).at1 i ((L16).getD i sv0) (getD_some (by omega))
          refine m_q rfl rfl (fun w' hC' => q_indexAddr1 Try.underlying48 Try.sizeOf25 rfl ha43 rfl (by omega) rfl) ?_
          refine m_q rfl rfl (fun w' hC' => q_load Try.isAgg25 rfl ((hh43.ext hC')) rfl) ?_
          refine m_o rfl rfl (o_call Try.call30 rfl (same_ret _ _ (((L22).getD i sv0).xs) _ _ (((L16).getD i sv0).xs) _ hr42 (by omega) hr44 (by omega)) rfl ?_)
          rintro _ w45 ⟨rfl, hE45⟩
          refine ⟨hE45, ?_⟩
          replace hB := below_ext hB hE45 hsz
          replace hb1 := hb1.ext hE45
          replace hrc15 := hrc15.ext hE45
          replace ho16 := own_ext ho16 hE45
          replace hos16 := hos16.ext hE45
          replace hrc18 := hrc18.ext hE45
          replace ho19 := own_ext ho19 hE45
          replace hos19 := hos19.ext hE45
          replace hrc21 := hrc21.ext hE45
          replace ho22 := own_ext ho22 hE45
          replace hos22 := hos22.ext hE45
          replace hr34 := hr34.ext hE45
          replace hr37 := hr37.ext hE45
          replace hr42 := hr42.ext hE45
          replace hr44 := hr44.ext hE45
          replace hsz := Nat.le_trans hsz hE45.size
          refine m_q rfl rfl (fun w' hC' => q_not rfl rfl) ?_
          refine m_q rfl rfl (fun w' hC' => q_pick_f (v := .bool _) rfl rfl rfl) ?_
          refine m_nil ?_
          refine r_forget [(10, .int _ _), (11, .slice _ _ _), (13, .slice _ _ _), (15, .slice _ _ _), (17, .int _ _), (111, .bool _)] ⟨rfl, rfl, rfl, rfl, rfl, rfl, trivial⟩ (fun e46 => ?_)
          have hk47 : (!(decide ((((L22).getD i sv0).xs) = (((L16).getD i sv0).xs)))) = false := by rw [decide_eq_true hpre.2]; rfl
          refine r_cond_f ((congrArg Value.bool hk47 : Value.bool _ = _)) ?_
          refine r_skip ?_
          refine r_inBlock ?_
          refine r_region' ?_
          refine l_q (q_move (v := .int _ _) rfl rfl) ?_
          refine l_q (q_add rfl rfl (by omega) rfl) ?_
          refine l_q (q_assign (v := .int _ _) rfl rfl) ?_
          refine l_nil ?_
          refine r_forget [(10, .int _ _), (11, .slice _ _ _), (13, .slice _ _ _), (15, .slice _ _ _), (17, .int _ _)] ⟨rfl, rfl, rfl, rfl, rfl, trivial⟩ (fun e48 => ?_)
          exact ih29 (i + 1) _ _ ⟨⟨rfl, rfl, rfl, rfl, by first | rfl | exact vint_eq (by omega), trivial⟩, (by omega), hb1, hrc15, ho16, hos16, hrc18, ho19, hos19, hrc21, ho22, hos22, hsz, hB⟩ (by first | omega | (dsimp only; omega))
        · skip
          try simp only [decide_eq_true_eq, decide_eq_false_iff_not, Bool.not_eq_true', Bool.not_eq_false', Bool.not_not, Bool.not_true, Bool.not_false, Bool.not_eq_true, Bool.not_eq_false, Int.not_lt, Int.not_le, Bool.and_eq_true, Bool.or_eq_true, Bool.and_eq_false_iff, Bool.or_eq_false_iff] at hc31
          refine r_exit rfl ?_
          refine r_seq ?_
          refine r_region' ?_
          refine l_o (o_call Try.call18 rfl (awake_ret _) rfl ?_)
          rintro _ w49 ⟨rfl, hE49⟩
          replace hB := below_ext hB hE49 hsz
          replace hb1 := hb1.ext hE49
          replace hrc15 := hrc15.ext hE49
          replace ho16 := own_ext ho16 hE49
          replace hos16 := hos16.ext hE49
          replace hrc18 := hrc18.ext hE49
          replace ho19 := own_ext ho19 hE49
          replace hos19 := hos19.ext hE49
          replace hrc21 := hrc21.ext hE49
          replace ho22 := own_ext ho22 hE49
          replace hos22 := hos22.ext hE49
          replace hsz := Nat.le_trans hsz hE49.size
          refine l_q (q_assign (v := .bool _) rfl rfl) ?_
          refine l_nil ?_
          refine r_forget [(8, .bool _)] ⟨rfl, trivial⟩ (fun e50 => ?_)
          refine r_ret_ (vs := [.bool _]) rfl Try.func8 rfl (.nil _) ⟨rfl, trivial⟩ ?_
          exact ⟨rfl, Ext.of_below hB⟩
end Go.Proofs.Ytkcbgpilfegofaa
