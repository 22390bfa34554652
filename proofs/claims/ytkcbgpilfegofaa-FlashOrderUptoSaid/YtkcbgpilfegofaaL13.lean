/- Contracts. -/
import Derived.Test.YtkcbgpilfegofaaE7
import Derived.Test.YtkcbgpilfegofaaGvTy2
set_option linter.unusedVariables false
set_option linter.unusedSimpArgs false
namespace Go.Proofs.Ytkcbgpilfegofaa
open Go Go.RowKit Go.Gv Go.Fl


theorem flashOrder_ret (a : Option Addr) (cc : Nat) (c : List Sg) (rd : Sg) (er le bb : Int) (w : World) (hrow : Row w a c.length cc 1 (c.map vstr)) (hcn : c.length ≤ 2097152) (hrd : rd.length ≤ 2097152) (her : 0 ≤ er ∧ er ≤ 255) (hle : 0 ≤ le ∧ le ≤ 255) (hbb : 0 ≤ bb ∧ bb ≤ 255) : Ret Try.prog 12 [.agg ⟨[.slice a c.length cc]⟩, vstr rd, .int .u8 er, .int .u8 le, .int .u8 bb] w (fun v w' => v = .bool true ∧ Ext w w') := by
  have hB := Below.refl w.heap.size w
  have hsz : w.heap.size ≤ w.heap.size := Nat.le_refl _
  refine ret_of_runs (args := [_, _, _, _, _]) Try.func12 rfl (Nat.le_of_ble_eq_true rfl) (by kernel_rfl) ?_
  refine r_seq ?_
  refine r_region' ?_
  refine l_o (o_box rfl rfl rfl ?_)
  intro b1 w1 hzl1 hzr1 _ hb1 hE1
  have hbs_b1 : w.heap.size ≤ b1 := Nat.le_trans hsz hzl1
  replace hB := below_ext hB hE1 hsz
  replace hsz := Nat.le_trans hsz hE1.size
  refine l_q (q_assign (v := .bool _) rfl rfl) ?_
  refine l_nil ?_
  refine r_forget [(1, .string _), (2, .int _ _), (3, .int _ _), (4, .int _ _), (5, .pointer _)] ⟨rfl, rfl, rfl, rfl, rfl, trivial⟩ (fun e2 => ?_)
  refine r_seq ?_
  refine r_seq ?_
  refine r_region' ?_
  refine l_q (q_load_agg (n := 1) Try.isAgg24 Try.sizeOf24 rfl ((hb1.cells' (cs' := [_]) 0 1 rfl)) rfl rfl) ?_
  refine l_o (o_call Try.call41 rfl (ready_ret _ _ c none 0 [] _ (hrow.below hB) (by omega) (Row.nil _ _ _ _) (by decide)) rfl ?_)
  rintro _ w3 ⟨rfl, hE3⟩
  replace hB := below_ext hB hE3 hsz
  replace hb1 := hb1.ext hE3
  replace hsz := Nat.le_trans hsz hE3.size
  refine l_q (q_not rfl rfl) ?_
  refine l_q (q_move (v := .bool _) rfl rfl) ?_
  refine l_part 24 rfl (fun hc4 => ?_) (fun hc4 => ?_)
  · skip
    try simp only [decide_eq_true_eq, decide_eq_false_iff_not, Bool.not_eq_true', Bool.not_eq_false', Bool.not_not, Bool.not_true, Bool.not_false, Bool.not_eq_true, Bool.not_eq_false, Int.not_lt, Int.not_le, Bool.and_eq_true, Bool.or_eq_true, Bool.and_eq_false_iff, Bool.or_eq_false_iff] at hc4
    refine l_q (q_skip rfl) ?_
    refine l_q (q_skip rfl) ?_
    refine l_q (q_skip rfl) ?_
    refine l_q (q_pick_t (v := .bool _) rfl rfl rfl) ?_
    refine l_q (q_move (v := .bool _) rfl rfl) ?_
    refine l_q (q_skip rfl) ?_
    refine l_q (q_skip rfl) ?_
    refine l_q (q_skip rfl) ?_
    refine l_q (q_skip rfl) ?_
    refine l_q (q_pick_t (v := .bool _) rfl rfl rfl) ?_
    refine l_nil ?_
    refine r_forget [(1, .string _), (2, .int _ _), (3, .int _ _), (4, .int _ _), (5, .pointer _), (34, .bool _)] ⟨rfl, rfl, rfl, rfl, rfl, rfl, trivial⟩ (fun e5 => ?_)
    refine r_cond_t rfl ?_
    refine r_seq ?_
    refine r_region' ?_
    refine l_o (o_call Try.call18 rfl (awake_ret _) rfl ?_)
    rintro _ w6 ⟨rfl, hE6⟩
    replace hB := below_ext hB hE6 hsz
    replace hb1 := hb1.ext hE6
    replace hsz := Nat.le_trans hsz hE6.size
    refine l_q (q_assign (v := .bool _) rfl rfl) ?_
    refine l_nil ?_
    refine r_forget [(10, .bool _)] ⟨rfl, trivial⟩ (fun e7 => ?_)
    refine r_ret_ (vs := [.bool _]) rfl Try.func12 rfl (.nil _) ⟨rfl, trivial⟩ ?_
    exact ⟨rfl, Ext.of_below hB⟩
  · skip
    try simp only [decide_eq_true_eq, decide_eq_false_iff_not, Bool.not_eq_true', Bool.not_eq_false', Bool.not_not, Bool.not_true, Bool.not_false, Bool.not_eq_true, Bool.not_eq_false, Int.not_lt, Int.not_le, Bool.and_eq_true, Bool.or_eq_true, Bool.and_eq_false_iff, Bool.or_eq_false_iff] at hc4
    obtain ⟨hcl, hfc, _, _⟩ := ready_all (show readyB c [] = true by simpa using hc4)
    have hfc6 := (fault_zero hfc).1
    have hc0 : 0 < c.length := List.length_pos_iff.2 (fault_zero hfc).2.1
    refine l_q (q_move (v := .string _) rfl rfl) ?_
    refine l_o (o_call Try.call28 rfl (signed_ret rd [] _ hrd (by decide)) rfl ?_)
    rintro _ w8 ⟨rfl, rfl⟩
    refine l_q (q_neq rfl rfl rfl) ?_
    refine l_q (q_pick_f (v := .bool _) rfl rfl rfl) ?_
    refine l_q (q_move (v := .bool _) rfl rfl) ?_
    refine l_part 29 rfl (fun hc9 => ?_) (fun hc9 => ?_)
    · skip
      try simp only [decide_eq_true_eq, decide_eq_false_iff_not, Bool.not_eq_true', Bool.not_eq_false', Bool.not_not, Bool.not_true, Bool.not_false, Bool.not_eq_true, Bool.not_eq_false, Int.not_lt, Int.not_le, Bool.and_eq_true, Bool.or_eq_true, Bool.and_eq_false_iff, Bool.or_eq_false_iff] at hc9
      refine l_q (q_skip rfl) ?_
      refine l_q (q_skip rfl) ?_
      refine l_q (q_skip rfl) ?_
      refine l_q (q_skip rfl) ?_
      refine l_q (q_pick_t (v := .bool _) rfl rfl rfl) ?_
      refine l_nil ?_
      refine r_forget [(1, .string _), (2, .int _ _), (3, .int _ _), (4, .int _ _), (5, .pointer _), (34, .bool _)] ⟨rfl, rfl, rfl, rfl, rfl, rfl, trivial⟩ (fun e10 => ?_)
      refine r_cond_t rfl ?_
      refine r_seq ?_
      refine r_region' ?_
      refine l_o (o_call Try.call18 rfl (awake_ret _) rfl ?_)
      rintro _ w11 ⟨rfl, hE11⟩
      replace hB := below_ext hB hE11 hsz
      replace hb1 := hb1.ext hE11
      replace hsz := Nat.le_trans hsz hE11.size
      refine l_q (q_assign (v := .bool _) rfl rfl) ?_
      refine l_nil ?_
      refine r_forget [(10, .bool _)] ⟨rfl, trivial⟩ (fun e12 => ?_)
      refine r_ret_ (vs := [.bool _]) rfl Try.func12 rfl (.nil _) ⟨rfl, trivial⟩ ?_
      exact ⟨rfl, Ext.of_below hB⟩
    · skip
      try simp only [decide_eq_true_eq, decide_eq_false_iff_not, Bool.not_eq_true', Bool.not_eq_false', Bool.not_not, Bool.not_true, Bool.not_false, Bool.not_eq_true, Bool.not_eq_false, Int.not_lt, Int.not_le, Bool.and_eq_true, Bool.or_eq_true, Bool.and_eq_false_iff, Bool.or_eq_false_iff] at hc9
      have hck : chk [rd] = 0 := by rw [chk_sf]; simpa using hc9
      refine l_q (q_fieldAddr (o' := 0) rfl fld24_0 rfl) ?_
      refine l_q (q_load Try.isAgg22 rfl ((hb1.has (o := 0) rfl)) rfl) ?_
      refine l_q (q_len rfl Try.underlying22 rfl rfl) ?_
      refine l_q (q_gtr rfl rfl rfl) ?_
      refine l_q (q_pick_f (v := .bool _) rfl rfl rfl) ?_
      refine l_nil ?_
      refine r_forget [(1, .string _), (2, .int _ _), (3, .int _ _), (4, .int _ _), (5, .pointer _), (34, .bool _)] ⟨rfl, rfl, rfl, rfl, rfl, rfl, trivial⟩ (fun e13 => ?_)
      refine r_cond rfl (fun hc14 => ?_) (fun hc14 => ?_)
      · skip
        try simp only [decide_eq_true_eq, decide_eq_false_iff_not, Bool.not_eq_true', Bool.not_eq_false', Bool.not_not, Bool.not_true, Bool.not_false, Bool.not_eq_true, Bool.not_eq_false, Int.not_lt, Int.not_le, Bool.and_eq_true, Bool.or_eq_true, Bool.and_eq_false_iff, Bool.or_eq_false_iff] at hc14
        refine r_seq ?_
        refine r_region' ?_
        refine l_o (o_call Try.call18 rfl (awake_ret _) rfl ?_)
        rintro _ w15 ⟨rfl, hE15⟩
        replace hB := below_ext hB hE15 hsz
        replace hb1 := hb1.ext hE15
        replace hsz := Nat.le_trans hsz hE15.size
        refine l_q (q_assign (v := .bool _) rfl rfl) ?_
        refine l_nil ?_
        refine r_forget [(10, .bool _)] ⟨rfl, trivial⟩ (fun e16 => ?_)
        refine r_ret_ (vs := [.bool _]) rfl Try.func12 rfl (.nil _) ⟨rfl, trivial⟩ ?_
        exact ⟨rfl, Ext.of_below hB⟩
      · skip
        try simp only [decide_eq_true_eq, decide_eq_false_iff_not, Bool.not_eq_true', Bool.not_eq_false', Bool.not_not, Bool.not_true, Bool.not_false, Bool.not_eq_true, Bool.not_eq_false, Int.not_lt, Int.not_le, Bool.and_eq_true, Bool.or_eq_true, Bool.and_eq_false_iff, Bool.or_eq_false_iff] at hc14
        have hc4 : c.length ≤ 4 := by omega
        refine r_skip ?_
        refine r_seq ?_
        refine r_region' ?_
        refine l_q (q_fieldAddr (o' := 0) rfl fld24_0 rfl) ?_
        refine l_q (q_load Try.isAgg22 rfl ((hb1.has (o := 0) rfl)) rfl) ?_
        refine l_q (q_len rfl Try.underlying22 rfl rfl) ?_
        refine l_q (q_assign (v := .int _ _) rfl rfl) ?_
        refine l_nil ?_
        refine r_forget [(1, .string _), (2, .int _ _), (3, .int _ _), (4, .int _ _), (5, .pointer _), (11, .int _ _)] ⟨rfl, rfl, rfl, rfl, rfl, rfl, trivial⟩ (fun e17 => ?_)
        refine r_seq ?_
        refine r_region' ?_
        refine l_q (q_move (v := .int _ _) rfl rfl) ?_
        refine l_q (q_toInt Try.underlying5 Try.underlying3 rfl (by omega) rfl) ?_
        refine l_q (q_move (v := .int _ _) rfl rfl) ?_
        refine l_q (q_rem rfl rfl (by omega) rfl) ?_
        refine l_q (q_assign (v := .int _ _) rfl rfl) ?_
        refine l_nil ?_
        refine r_forget [(1, .string _), (2, .int _ _), (3, .int _ _), (5, .pointer _), (11, .int _ _), (12, .int _ _)] ⟨rfl, rfl, rfl, rfl, rfl, rfl, trivial⟩ (fun e18 => ?_)
        refine r_seq ?_
        obtain ⟨k, hk⟩ : ∃ k : Nat, bb % (c.length : Int) = k := ⟨(bb % (c.length : Int)).toNat, by have := Int.emod_nonneg bb (show (c.length : Int) ≠ 0 by omega); omega⟩
        have hkc : k < c.length := by have := Int.emod_lt_of_pos bb (show (0 : Int) < c.length by omega); omega
        refine r_forget [(1, .string _), (2, .int _ _), (3, .int _ _), (5, .pointer _), (11, .int _ _), (12, vint (k : Int))] ⟨rfl, rfl, rfl, rfl, rfl, vint_eq hk, trivial⟩ (fun e19 => ?_)
        refine r_draw3 (Cls := fun w w' => Blk w b1 [.slice a c.length cc] → Blk w' b1 [.slice a c.length cc]) (fun w h => h) (fun a b c h1 h2 h => h2 (h1 h)) (.op 1 (.op 2 (.op 3 (.op 4 (.op 6 (.op 7 (.op 8 (.op 9 (.fork 12 (.op 0 (.op 5 (.op 10 (.op 11 (.op 13 (.done)))))) (.op 0 (.fork 12 (.op 5 (.op 10 (.op 11 (.op 13 (.done))))) (.op 5 (.fork 12 (.op 10 (.op 11 (.op 13 (.done)))) (.op 10 (.fork 12 (.op 11 (.op 13 (.done))) (.op 11 (.op 12 (.op 13 (.done))))))))))))))))))) [0, 5, 10, 12, 13, 1013] 9 (by kernel_rfl) (by kernel_rfl) ?_
        intro w20 _ hE20
        replace hB := below_ext hB hE20 hsz
        replace hb1 := hb1.ext hE20
        replace hsz := Nat.le_trans hsz hE20.size
        refine m_q3 rfl rfl (fun w' hC' => q_fieldAddr (o' := 0) rfl fld24_0 rfl) ?_
        refine m_q3 rfl rfl (fun w' hC' => q_load Try.isAgg22 rfl (((hC' hb1).has (o := 0) rfl)) rfl) ?_
        refine m_q3 rfl rfl (fun w' hC' => q_move (v := .int _ _) rfl rfl) ?_
        obtain ⟨a21, c21, hr21, hv21⟩ := slice_ex_lo (f := vstr) (xs := c) ((k : Int)) hrow (by omega)
        refine m_q3 rfl rfl (fun w' hC' => (q_slice (lo := (k : Int)) (hi := (c.length : Int)) Try.underlying22 Try.sizeOf9 rfl rfl rfl (by omega) (hrow.below hB).2.1 rfl).cast hv21) ?_
        refine m_q3 rfl rfl (fun w' hC' => q_fieldAddr (o' := 0) rfl fld24_0 rfl) ?_
        refine m_q3 rfl rfl (fun w' hC' => q_load Try.isAgg22 rfl (((hC' hb1).has (o := 0) rfl)) rfl) ?_
        refine m_q3 rfl rfl (fun w' hC' => q_move (v := .int _ _) rfl rfl) ?_
        obtain ⟨a22, c22, hr22, hv22⟩ := slice_ex_hi (f := vstr) (xs := c) ((k : Int)) hrow (by omega)
        refine m_q3 rfl rfl (fun w' hC' => (q_slice (lo := 0) (hi := (k : Int)) Try.underlying22 Try.sizeOf9 rfl rfl rfl (by omega) (hrow.below hB).2.1 rfl).cast hv22) ?_
        refine m_fork3 ?_ ?_
        · skip
          refine m_o3 rfl rfl (o_alloct Try.zeroValue24 rfl rfl ?_)
          intro b23 w23 hzl23 hzr23 _ hb23 htya hE23
          refine ⟨(fun hx => hx.ext hE23), ?_⟩
          have hne_b1_b23 : b1 ≠ b23 := by have := hb1.lt; omega
          have hbs_b23 : w.heap.size ≤ b23 := Nat.le_trans hsz hzl23
          replace hB := below_ext hB hE23 hsz
          replace hb1 := hb1.ext hE23
          replace hsz := Nat.le_trans hsz hE23.size
          have hbl_b1 := hb1.lt
          have hbl_b23 := hb23.lt
          refine m_o3 rfl rfl (o_buildSlice (el := 9) (cs := []) Try.underlying22 el9 (by decide) (by kernel_rfl) rfl (by decide) rfl ?_)
          intro b24 w24 hzl24 hzr24 _ hb24 hE24 ho24
          refine ⟨(fun hx => hx.ext hE24), ?_⟩
          have hne_b1_b24 : b1 ≠ b24 := by have := hb1.lt; omega
          have hne_b23_b24 : b23 ≠ b24 := by have := hb23.lt; omega
          have hbs_b24 : w.heap.size ≤ b24 := Nat.le_trans hsz hzl24
          replace hB := below_ext hB hE24 hsz
          replace hb1 := hb1.ext hE24
          replace hb23 := hb23.ext hE24
          replace htya := htya.ext hE24
          replace hsz := Nat.le_trans hsz hE24.size
          replace ho24 := own_mono ho24 (show b1 + 1 ≤ _ by omega)
          have hbl_b1 := hb1.lt
          have hbl_b23 := hb23.lt
          refine m_o3 rfl rfl (o_append_map (f := vstr) ([]) ((c).drop k) Try.underlying22 el9 rfl rfl ho24 rfl (hr21.below hB) (fun _ => rfl) (by (try simp only [List.length_append, List.length_cons, List.length_nil, List.length_take, List.length_drop, List.length_replicate]); omega) (by omega) rfl ?_)
          intro a25 c25 w25 hz25 ho25 hG25
          refine ⟨(fun hx => hx.step hG25 (own_ne ho24 (by omega))), ?_⟩
          replace hB := below_own hB hG25 ho24 (by omega) hsz
          replace hsz := Nat.le_trans hsz hG25.size
          replace hb1 := hb1.step hG25 (own_ne ho24 (by omega))
          replace hb23 := hb23.step hG25 (own_ty_ne ho24 htya (by decide))
          replace htya := htya.own ho24 hG25 (by decide)
          have hbl_b1 := hb1.lt
          have hbl_b23 := hb23.lt
          refine m_o3 rfl rfl (o_append_map (f := vstr) ([] ++ ((c).drop k)) ((c).take k) Try.underlying22 el9 rfl rfl ho25 rfl (hr22.below hB) (fun _ => rfl) (by (try simp only [List.length_append, List.length_cons, List.length_nil, List.length_take, List.length_drop, List.length_replicate]); omega) (by omega) rfl ?_)
          intro a26 c26 w26 hz26 ho26 hG26
          refine ⟨(fun hx => hx.step hG26 (own_ne ho25 (by omega))), ?_⟩
          replace hB := below_own hB hG26 ho25 (by omega) hsz
          replace hsz := Nat.le_trans hsz hG26.size
          replace hb1 := hb1.step hG26 (own_ne ho25 (by omega))
          replace hb23 := hb23.step hG26 (own_ty_ne ho25 htya (by decide))
          replace htya := htya.own ho25 hG26 (by decide)
          refine m_q3 rfl rfl (fun w' hC' => q_build (v := .agg ⟨[.slice a26 ((([] ++ ((c).drop k)) ++ ((c).take k)).length) c26]⟩) (fun w => by kernel_rfl) rfl) ?_
          refine m_last3 rfl rfl rfl (o_store (vs := [.slice a26 ((([] ++ ((c).drop k)) ++ ((c).take k)).length) c26]) (cs' := [.slice a26 ((([] ++ ((c).drop k)) ++ ((c).take k)).length) c26]) Try.sizeOf24 rfl rfl rfl rfl hb23 (Nat.le_of_ble_eq_true rfl) rfl rfl ?_)
          intro w27 hz27 hb23 hG27
          replace hB := below_upd hB hG27 hsz (by omega)
          replace hsz : w.heap.size ≤ w27.heap.size := by rw [hz27]; exact hsz
          replace hb1 := hb1.upd hG27 (by omega)
          replace ho26 := own_ty_upd ho26 htya hG27 (by decide)
          refine m_nil3 ?_
          refine r_forget [(1, .string _), (2, .int _ _), (3, .int _ _), (5, .pointer _), (11, .int _ _), (12, .int _ _), (13, .pointer _)] ⟨rfl, rfl, rfl, rfl, rfl, rfl, rfl, trivial⟩ (fun e28 => ?_)
          refine r_seq ?_
          have hn4 : (le % 4).toNat ≤ 3 := by omega
          have hxf := rot_fault hfc hkc
          have hxl := rotC_len c k
          have hxc : ∀ s ∈ rotC c k, s.length ≤ 2097152 := fun s hs => (List.mem_append.1 hs).elim (fun h => hcl s (List.mem_of_mem_drop h)) (fun h => hcl s (List.mem_of_mem_take h))
          have hren := rot_ren hkc
          refine r_region' ?_
          refine l_q (q_load_agg (n := 1) Try.isAgg24 Try.sizeOf24 rfl ((hb1.cells' (cs' := [_]) 0 1 rfl)) rfl rfl) ?_
          refine l_o (o_call Try.call20 rfl (code_ret _ _ c _ (hrow.below hB) (by omega)) rfl ?_)
          rintro _ w29 ⟨ca29, cc29, rfl, hrc29, hE29⟩
          replace hB := below_ext hB hE29 hsz
          replace hb1 := hb1.ext hE29
          replace hb23 := hb23.ext hE29
          replace ho26 := own_ext ho26 hE29
          replace hsz := Nat.le_trans hsz hE29.size
          refine l_q (q_move (v := .string _) rfl rfl) ?_
          refine l_q (q_move (v := .int _ _) rfl rfl) ?_
          refine l_q (q_toInt Try.underlying5 Try.underlying3 rfl (by omega) rfl) ?_
          refine l_q (q_rem rfl rfl (by omega) rfl) ?_
          refine l_q (q_move (v := .int _ _) rfl rfl) ?_
          refine l_q (q_toInt Try.underlying5 Try.underlying3 rfl (by omega) rfl) ?_
          refine l_q (q_rem rfl rfl (by omega) rfl) ?_
          refine l_o (o_call Try.call32 rfl (texts2_ret _ _ (c) rd (er % 4) (le % 4) _ hrc29 (by omega) hcl (by omega)) rfl ?_)
          have hszp30 : w.heap.size ≤ w29.heap.size := hsz
          have hbl_b1 := hb1.lt
          have hbl_b23 := hb23.lt
          rintro _ w30 ⟨oa30, oc30, L30, rfl, ho30, hos30, hm30, hE30⟩
          replace ho30 := own_mono ho30 (show b1 + 1 ≤ _ by omega)
          replace hB := below_ext hB hE30 hsz
          replace hb1 := hb1.ext hE30
          replace hb23 := hb23.ext hE30
          replace ho26 := own_ext ho26 hE30
          replace hrc29 := hrc29.ext hE30
          replace hsz := Nat.le_trans hsz hE30.size
          have hEA : txErr (c) rd (er % 4) (le % 4) = 0 := txErr_zero hfc hck (by omega)
          have hMA := (hm30).trans (txL_spec hEA)
          obtain ⟨hlA, hsA, htA⟩ := texts_sv hMA (by omega) (by omega)
          refine l_q (q_move (v := .tuple _) rfl rfl) ?_
          refine l_q (q_extract (vs := [_, _]) (v := .slice _ _ _) rfl rfl rfl) ?_
          refine l_q (q_extract (vs := [_, _]) (v := .int _ _) rfl rfl rfl) ?_
          refine l_q (q_assign (v := .slice _ _ _) rfl rfl) ?_
          refine l_q (q_assign (v := .int _ _) rfl rfl) ?_
          refine l_nil ?_
          refine r_forget [(1, .string _), (2, .int _ _), (3, .int _ _), (11, .int _ _), (12, .int _ _), (13, .pointer _), (14, .slice _ _ _), (15, .int _ _)] ⟨rfl, rfl, rfl, rfl, rfl, rfl, rfl, rfl, trivial⟩ (fun e31 => ?_)
          refine r_seq ?_
          refine r_region' ?_
          refine l_q (q_load_agg (n := 1) Try.isAgg24 Try.sizeOf24 rfl ((hb23.cells' (cs' := [_]) 0 1 rfl)) rfl rfl) ?_
          refine l_o (o_call Try.call20 rfl (code_ret _ _ (rotC c k) _ (Row.of_owns ho26) (by rw [hxl]; omega)) rfl ?_)
          rintro _ w32 ⟨ca32, cc32, rfl, hrc32, hE32⟩
          replace hB := below_ext hB hE32 hsz
          replace hb1 := hb1.ext hE32
          replace hb23 := hb23.ext hE32
          replace ho26 := own_ext ho26 hE32
          replace hrc29 := hrc29.ext hE32
          replace ho30 := own_ext ho30 hE32
          replace hos30 := hos30.ext hE32
          replace hsz := Nat.le_trans hsz hE32.size
          refine l_q (q_move (v := .string _) rfl rfl) ?_
          refine l_q (q_move (v := .int _ _) rfl rfl) ?_
          refine l_q (q_toInt Try.underlying5 Try.underlying3 rfl (by omega) rfl) ?_
          refine l_q (q_rem rfl rfl (by omega) rfl) ?_
          refine l_q (q_move (v := .int _ _) rfl rfl) ?_
          refine l_q (q_toInt Try.underlying5 Try.underlying3 rfl (by omega) rfl) ?_
          refine l_q (q_rem rfl rfl (by omega) rfl) ?_
          refine l_o (o_call Try.call32 rfl (texts2_ret _ _ (rotC c k) rd (er % 4) (le % 4) _ hrc32 (by rw [hxl]; omega) hxc (by omega)) rfl ?_)
          have hszp33 : w.heap.size ≤ w32.heap.size := hsz
          have hbl_b1 := hb1.lt
          have hbl_b23 := hb23.lt
          rintro _ w33 ⟨oa33, oc33, L33, rfl, ho33, hos33, hm33, hE33⟩
          replace ho33 := own_mono ho33 (show b1 + 1 ≤ _ by omega)
          replace hB := below_ext hB hE33 hsz
          replace hb1 := hb1.ext hE33
          replace hb23 := hb23.ext hE33
          replace ho26 := own_ext ho26 hE33
          replace hrc29 := hrc29.ext hE33
          replace ho30 := own_ext ho30 hE33
          replace hos30 := hos30.ext hE33
          replace hrc32 := hrc32.ext hE33
          replace hsz := Nat.le_trans hsz hE33.size
          have hEB : txErr (rotC c k) rd (er % 4) (le % 4) = 0 := txErr_zero hxf hck (by omega)
          have hMB := (hm33).trans (txL_spec hEB)
          obtain ⟨hlB, hsB, htB⟩ := texts_sv hMB (by rw [hxl]; omega) (by omega)
          refine l_q (q_move (v := .tuple _) rfl rfl) ?_
          refine l_q (q_extract (vs := [_, _]) (v := .slice _ _ _) rfl rfl rfl) ?_
          refine l_q (q_extract (vs := [_, _]) (v := .int _ _) rfl rfl rfl) ?_
          refine l_q (q_assign (v := .slice _ _ _) rfl rfl) ?_
          refine l_q (q_assign (v := .int _ _) rfl rfl) ?_
          refine l_nil ?_
          refine r_forget [(11, .int _ _), (12, .int _ _), (14, .slice _ _ _), (15, .int _ _), (16, .slice _ _ _), (17, .int _ _)] ⟨rfl, rfl, rfl, rfl, rfl, rfl, trivial⟩ (fun e34 => ?_)
          refine r_seq ?_
          refine r_seq ?_
          have hlen : (L30).length = (L33).length := by have h1 := congrArg List.length hMA; have h2 := congrArg List.length hMB; rw [List.length_map] at h1 h2; rw [h1, h2, rot_texts_len hkc]
          refine r_region' ?_
          refine l_q (q_move (v := .int _ _) rfl rfl) ?_
          refine l_q (q_neq rfl rfl rfl) ?_
          refine l_q (q_move (v := .bool _) rfl rfl) ?_
          have hk35 : (!decide ((txErr (c) rd (er % 4) (le % 4)) = 0)) = false := by rw [hEA]; rfl
          refine l_part 83 rfl (fun hx => absurd (hk35.symm.trans hx) (by decide)) (fun _ => ?_)
          refine l_q (q_move (v := .int _ _) rfl rfl) ?_
          refine l_q (q_neq rfl rfl rfl) ?_
          refine l_q (q_pick_f (v := .bool _) rfl rfl rfl) ?_
          refine l_q (q_move (v := .bool _) rfl rfl) ?_
          have hk36 : (!decide ((txErr (rotC c k) rd (er % 4) (le % 4)) = 0)) = false := by rw [hEB]; rfl
          refine l_part 87 rfl (fun hx => absurd (hk36.symm.trans hx) (by decide)) (fun _ => ?_)
          refine l_q (q_move (v := .slice _ _ _) rfl rfl) ?_
          refine l_q (q_len rfl Try.underlying48 rfl rfl) ?_
          refine l_q (q_move (v := .slice _ _ _) rfl rfl) ?_
          refine l_q (q_len rfl Try.underlying48 rfl rfl) ?_
          refine l_q (q_neq rfl rfl rfl) ?_
          refine l_q (q_pick_f (v := .bool _) rfl rfl rfl) ?_
          refine l_nil ?_
          refine r_forget [(11, .int _ _), (12, .int _ _), (14, .slice _ _ _), (16, .slice _ _ _), (93, .bool _)] ⟨rfl, rfl, rfl, rfl, rfl, trivial⟩ (fun e37 => ?_)
          have hk38 : (!decide (((L30).length : Int) = ((L33).length : Int))) = false := by rw [hlen]; simp
          refine r_cond_f ((congrArg Value.bool hk38 : Value.bool _ = _)) ?_
          refine r_skip ?_
          refine r_seq ?_
          refine r_seq ?_
          refine r_region' ?_
          refine l_q (q_assign (v := .int _ _) rfl rfl) ?_
          refine l_nil ?_
          refine r_forget [(11, .int _ _), (12, .int _ _), (14, .slice _ _ _), (16, .slice _ _ _), (18, .int _ _)] ⟨rfl, rfl, rfl, rfl, rfl, trivial⟩ (fun e39 => ?_)
          refine r_block ?_
          refine r_rounds (α := Nat) (fun i e wl => Knows e [(11, vint (c.length : Int)), (12, vint (k : Int)), (14, .slice oa30 ((L30).length) oc30), (16, .slice oa33 ((L33).length) oc33), (18, vint (i : Int))] ∧ (i ≤ (L30).length) ∧ (wl.ownsRow (b1 + 1) 25 1 (.slice oa30 ((L30).length) oc30) ((L30).length) ((L30).map SV.enc)) ∧ (OwnsI wl w29.heap.size 3 L30) ∧ (wl.ownsRow (b1 + 1) 25 1 (.slice oa33 ((L33).length) oc33) ((L33).length) ((L33).map SV.enc)) ∧ (OwnsI wl w32.heap.size 3 L33) ∧ (w.heap.size ≤ wl.heap.size) ∧ (Below w.heap.size w wl)) (fun i => (L30).length - i) 0 ?_ ?_
          · skip
            exact ⟨⟨rfl, rfl, rfl, rfl, rfl, trivial⟩, (Nat.zero_le _), ho30, hos30, ho33, hos33, hsz, hB⟩
          · skip
            rintro i el40 wl40 ⟨hkn, hki, ho30, hos30, ho33, hos33, hsz, hB⟩ ih40
            obtain ⟨e40, rfl⟩ := knows_env hkn
            refine r_seq ?_
            refine r_seq ?_
            refine r_region' ?_
            refine l_q (q_move (v := .int _ _) rfl rfl) ?_
            refine l_q (q_move (v := .slice _ _ _) rfl rfl) ?_
            refine l_q (q_len rfl Try.underlying48 rfl rfl) ?_
            refine l_q (q_lss rfl rfl rfl) ?_
            refine l_nil ?_
            refine r_forget [(11, .int _ _), (12, .int _ _), (14, .slice _ _ _), (16, .slice _ _ _), (18, .int _ _), (97, .bool _)] ⟨rfl, rfl, rfl, rfl, rfl, rfl, trivial⟩ (fun e41 => ?_)
            refine r_cond rfl (fun hc42 => ?_) (fun hc42 => ?_)
            · skip
              try simp only [decide_eq_true_eq, decide_eq_false_iff_not, Bool.not_eq_true', Bool.not_eq_false', Bool.not_not, Bool.not_true, Bool.not_false, Bool.not_eq_true, Bool.not_eq_false, Int.not_lt, Int.not_le, Bool.and_eq_true, Bool.or_eq_true, Bool.and_eq_false_iff, Bool.or_eq_false_iff] at hc42
              have hi1 := Int.ofNat_lt.1 hc42
              have hea := hsA _ (getD_lt (d := sv0) hi1)
              have hin := hren.mem (show _ ∈ texts c rd (er % 4) (le % 4).toNat by rw [← hMA]; exact List.mem_of_getElem? (sv_at hi1))
              have hit := isText_iff.1 (mem_texts.1 (show _ ∈ texts c rd (er % 4) (le % 4).toNat by rw [← hMA]; exact List.mem_of_getElem? (sv_at hi1))).2.1
              refine r_skip ?_
              refine r_seq ?_
              refine r_block ?_
              refine r_seq ?_
              refine r_region' ?_
              refine l_q (q_assign (v := .slice _ _ _) rfl rfl) ?_
              refine l_nil ?_
              refine r_forget [(11, .int _ _), (12, .int _ _), (14, .slice _ _ _), (16, .slice _ _ _), (18, .int _ _), (19, .slice _ _ _)] ⟨rfl, rfl, rfl, rfl, rfl, rfl, trivial⟩ (fun e43 => ?_)
              refine r_seq ?_
              refine r_seq ?_
              have hlt_ho30 : ∀ g, (Value.slice oa30 ((L30).length) oc30).ownBlock = some g → g < wl40.heap.size := fun g hg => (ho30.lt g hg).2
              have hlt_hos30 := OwnsI.ltB hos30
              have hlt_ho33 : ∀ g, (Value.slice oa33 ((L33).length) oc33).ownBlock = some g → g < wl40.heap.size := fun g hg => (ho33.lt g hg).2
              have hlt_hos33 := OwnsI.ltB hos33
              have hszx44 : w.heap.size ≤ wl40.heap.size := hsz
              have hszy : wl40.heap.size ≤ wl40.heap.size := Nat.le_refl _
              refine r_region' ?_
              refine l_q (q_assign (v := .int _ _) rfl rfl) ?_
              refine l_nil ?_
              refine r_block ?_
              refine r_rounds (α := Nat × (Option Addr) × Nat) (fun ⟨l, oa, oc⟩ e wl => Knows e [(11, vint (c.length : Int)), (12, vint (k : Int)), (14, .slice oa30 ((L30).length) oc30), (16, .slice oa33 ((L33).length) oc33), (18, vint (i : Int)), (19, .slice oa (((((L30).getD i sv0).xs.take l).map (rotN c.length k)).length) oc), (20, vint (l : Int))] ∧ (l ≤ ((L30).getD i sv0).xs.length) ∧ (wl.ownsRow wl40.heap.size 3 1 (.slice oa (((((L30).getD i sv0).xs.take l).map (rotN c.length k)).length) oc) (((((L30).getD i sv0).xs.take l).map (rotN c.length k)).length) (((((L30).getD i sv0).xs.take l).map (rotN c.length k)).map vint)) ∧ (wl.ownsRow (b1 + 1) 25 1 (.slice oa30 ((L30).length) oc30) ((L30).length) ((L30).map SV.enc)) ∧ (OwnsI wl w29.heap.size 3 L30) ∧ (wl.ownsRow (b1 + 1) 25 1 (.slice oa33 ((L33).length) oc33) ((L33).length) ((L33).map SV.enc)) ∧ (OwnsI wl w32.heap.size 3 L33) ∧ (wl40.heap.size ≤ wl.heap.size) ∧ (w.heap.size ≤ wl.heap.size) ∧ (Below w.heap.size w wl)) (fun ⟨l, oa, oc⟩ => ((L30).getD i sv0).xs.length - l) (0, none, 0) ?_ ?_
              · skip
                exact ⟨⟨rfl, rfl, rfl, rfl, rfl, rfl, rfl, trivial⟩, (Nat.zero_le _), (World.ownsRow_nil _ _ _ _), ho30, hos30, ho33, hos33, hszy, hsz, hB⟩
              · skip
                rintro ⟨l, oa, oc⟩ el45 wl45 ⟨hkn, hkl, hox, ho30, hos30, ho33, hos33, hszy, hsz, hB⟩ ih45
                obtain ⟨e45, rfl⟩ := knows_env hkn
                refine r_seq ?_
                refine r_seq ?_
                refine r_region' ?_
                refine l_q (q_move (v := .int _ _) rfl rfl) ?_
                refine l_q (q_move (v := .slice _ _ _) rfl rfl) ?_
                refine l_q (q_move (v := .int _ _) rfl rfl) ?_
                have hr47 := hos30.rows.get (i := i) (by omega)
                obtain ⟨b46, o46, ha46, hh46⟩ := (Row.of_owns ho30).at1 i ((L30).getD i sv0) (getD_some (by omega))
                refine l_q (q_indexAddr1 Try.underlying48 Try.sizeOf25 rfl ha46 rfl (by omega) rfl) ?_
                refine l_q (q_load Try.isAgg25 rfl (hh46) rfl) ?_
                refine l_q (q_len rfl Try.underlying25 rfl rfl) ?_
                refine l_q (q_lss rfl rfl rfl) ?_
                refine l_nil ?_
                refine r_forget [(11, .int _ _), (12, .int _ _), (14, .slice _ _ _), (16, .slice _ _ _), (18, .int _ _), (19, .slice _ _ _), (20, .int _ _), (106, .bool _)] ⟨rfl, rfl, rfl, rfl, rfl, rfl, rfl, rfl, trivial⟩ (fun e48 => ?_)
                refine r_cond rfl (fun hc49 => ?_) (fun hc49 => ?_)
                · skip
                  try simp only [decide_eq_true_eq, decide_eq_false_iff_not, Bool.not_eq_true', Bool.not_eq_false', Bool.not_not, Bool.not_true, Bool.not_false, Bool.not_eq_true, Bool.not_eq_false, Int.not_lt, Int.not_le, Bool.and_eq_true, Bool.or_eq_true, Bool.and_eq_false_iff, Bool.or_eq_false_iff] at hc49
                  have hll := Int.ofNat_lt.1 hc49
                  have hlr := hit _ (getD_lt (d := 0) hll)
                  refine r_skip ?_
                  refine r_seq ?_
                  refine r_block ?_
                  refine r_region' ?_
                  refine l_q (q_move (v := .slice _ _ _) rfl rfl) ?_
                  refine l_q (q_move (v := .slice _ _ _) rfl rfl) ?_
                  refine l_q (q_move (v := .int _ _) rfl rfl) ?_
                  have hr51 := hos30.rows.get (i := i) (by omega)
                  obtain ⟨b50, o50, ha50, hh50⟩ := (Row.of_owns ho30).at1 i ((L30).getD i sv0) (getD_some (by omega))
                  refine l_q (q_indexAddr1 Try.underlying48 Try.sizeOf25 rfl ha50 rfl (by omega) rfl) ?_
                  refine l_q (q_load Try.isAgg25 rfl (hh50) rfl) ?_
                  refine l_q (q_move (v := .int _ _) rfl rfl) ?_
                  obtain ⟨b52, o52, ha52, hh52⟩ := hr51.at1 l ((((L30).getD i sv0).xs).getD l 0) (getD_some (by omega))
                  refine l_q (q_indexAddr1 Try.underlying25 Try.sizeOf3 rfl ha52 rfl (by omega) rfl) ?_
                  refine l_q (q_load Try.isAgg3 rfl (hh52) rfl) ?_
                  refine l_q (q_move (v := .int _ _) rfl rfl) ?_
                  refine l_q (q_add rfl rfl (by omega) rfl) ?_
                  refine l_q (q_move (v := .int _ _) rfl rfl) ?_
                  refine l_q (q_sub rfl rfl (by omega) rfl) ?_
                  refine l_q (q_move (v := .int _ _) rfl rfl) ?_
                  refine l_q (q_rem rfl rfl (by omega) rfl) ?_
                  have hszz53 := hszy
                  refine l_o (o_buildSlice (el := 3) (cs := [vint (((((((L30).getD i sv0).xs).getD l 0) + (c.length : Int)) - (k : Int)) % (c.length : Int))]) Try.underlying25 el3 (by decide) (by kernel_rfl) rfl (by decide) rfl ?_)
                  intro b54 w54 hzl54 hzr54 _ hb54 hE54 ho54
                  have hbs_b54 : w.heap.size ≤ b54 := Nat.le_trans hsz hzl54
                  replace hB := below_ext hB hE54 hsz
                  replace ho30 := own_ext ho30 hE54
                  replace hos30 := hos30.ext hE54
                  replace ho33 := own_ext ho33 hE54
                  replace hos33 := hos33.ext hE54
                  replace hszy := Nat.le_trans hszy hE54.size
                  replace hox := own_ext hox hE54
                  replace hr47 := hr47.ext hE54
                  replace hr51 := hr51.ext hE54
                  replace hsz := Nat.le_trans hsz hE54.size
                  replace ho54 := own_mono ho54 (show wl40.heap.size ≤ _ by omega)
                  have hszz55 := hszy
                  refine l_o (o_append_map (f := vint) ((((L30).getD i sv0).xs.take l).map (rotN c.length k)) ([((((((L30).getD i sv0).xs).getD l 0) + (c.length : Int)) - (k : Int)) % (c.length : Int)]) Try.underlying25 el3 rfl rfl hox rfl (Row.of_owns ho54) (fun _ => rfl) (by simp only [List.length_map, List.length_take, List.length_cons, List.length_nil]; omega) (by omega) rfl ?_)
                  intro a56 c56 w56 hz56 ho56 hG56
                  replace hB := below_own hB hG56 hox (by omega) hsz
                  replace hsz := Nat.le_trans hsz hG56.size
                  replace ho30 := own_sep ho30 hlt_ho30 hox hG56
                  replace hos30 := OwnsI.sep hos30 hlt_hos30 hox hG56
                  replace ho33 := own_sep ho33 hlt_ho33 hox hG56
                  replace hos33 := OwnsI.sep hos33 hlt_hos33 hox hG56
                  replace hszy := Nat.le_trans hszy hG56.size
                  refine l_q (q_assign (v := .slice _ _ _) rfl rfl) ?_
                  refine l_nil ?_
                  refine r_forget [(11, .int _ _), (12, .int _ _), (14, .slice _ _ _), (16, .slice _ _ _), (18, .int _ _), (19, .slice _ _ _), (20, .int _ _)] ⟨rfl, rfl, rfl, rfl, rfl, rfl, rfl, trivial⟩ (fun e57 => ?_)
                  refine r_inBlock ?_
                  refine r_region' ?_
                  refine l_q (q_move (v := .int _ _) rfl rfl) ?_
                  refine l_q (q_add rfl rfl (by omega) rfl) ?_
                  refine l_q (q_assign (v := .int _ _) rfl rfl) ?_
                  refine l_nil ?_
                  refine r_forget [(11, .int _ _), (12, .int _ _), (14, .slice _ _ _), (16, .slice _ _ _), (18, .int _ _), (19, .slice _ _ _), (20, .int _ _)] ⟨rfl, rfl, rfl, rfl, rfl, rfl, rfl, trivial⟩ (fun e58 => ?_)
                  have hst := rot_step (N := c.length) (k := k) hll
                  exact ih45 (l + 1, a56, c56) _ _ ⟨⟨rfl, rfl, rfl, rfl, rfl, (congrArg (fun z => Value.slice _ (List.length z) _) hst), by first | rfl | exact vint_eq (by omega), trivial⟩, (by omega), (hst ▸ ho56), ho30, hos30, ho33, hos33, hszy, hsz, hB⟩ (by first | omega | (dsimp only; omega))
                · skip
                  try simp only [decide_eq_true_eq, decide_eq_false_iff_not, Bool.not_eq_true', Bool.not_eq_false', Bool.not_not, Bool.not_true, Bool.not_false, Bool.not_eq_true, Bool.not_eq_false, Int.not_lt, Int.not_le, Bool.and_eq_true, Bool.or_eq_true, Bool.and_eq_false_iff, Bool.or_eq_false_iff] at hc49
                  have hll := Int.ofNat_le.1 hc49
                  refine r_exit rfl ?_
                  refine r_seq ?_
                  refine r_region' ?_
                  refine l_q (q_move (v := .slice _ _ _) rfl rfl) ?_
                  refine l_q (q_move (v := .slice _ _ _) rfl rfl) ?_
                  refine l_o (o_call Try.call42 rfl (lhas_ret _ _ L33 _ _ ((((L30).getD i sv0).xs.take l).map (rotN c.length k)) _ (Row.of_owns ho33) hos33.rows (by omega) htB (Row.of_owns hox) (by rw [List.length_map, List.length_take]; omega)) rfl ?_)
                  rintro _ w59 ⟨rfl, hE59⟩
                  replace hB := below_ext hB hE59 hsz
                  replace ho30 := own_ext ho30 hE59
                  replace hos30 := hos30.ext hE59
                  replace ho33 := own_ext ho33 hE59
                  replace hos33 := hos33.ext hE59
                  replace hszy := Nat.le_trans hszy hE59.size
                  replace hox := own_ext hox hE59
                  replace hr47 := hr47.ext hE59
                  replace hsz := Nat.le_trans hsz hE59.size
                  refine l_q (q_not rfl rfl) ?_
                  refine l_nil ?_
                  refine r_forget [(11, .int _ _), (12, .int _ _), (14, .slice _ _ _), (16, .slice _ _ _), (18, .int _ _), (128, .bool _)] ⟨rfl, rfl, rfl, rfl, rfl, rfl, trivial⟩ (fun e60 => ?_)
                  have hk61 : (!(((L33).map (·.xs)).contains ((((L30).getD i sv0).xs.take l).map (rotN c.length k)))) = false := by rw [List.take_of_length_le hll, show (List.contains _ _) = true from List.contains_iff_mem.2 (by rw [hMB]; exact hin)]; rfl
                  refine r_cond_f ((congrArg Value.bool hk61 : Value.bool _ = _)) ?_
                  refine r_skip ?_
                  refine r_inBlock ?_
                  refine r_region' ?_
                  refine l_q (q_move (v := .int _ _) rfl rfl) ?_
                  refine l_q (q_add rfl rfl (by omega) rfl) ?_
                  refine l_q (q_assign (v := .int _ _) rfl rfl) ?_
                  refine l_nil ?_
                  refine r_forget [(11, .int _ _), (12, .int _ _), (14, .slice _ _ _), (16, .slice _ _ _), (18, .int _ _)] ⟨rfl, rfl, rfl, rfl, rfl, trivial⟩ (fun e62 => ?_)
                  exact ih40 (i + 1) _ _ ⟨⟨rfl, rfl, rfl, rfl, by first | rfl | exact vint_eq (by omega), trivial⟩, (by omega), ho30, hos30, ho33, hos33, hsz, hB⟩ (by first | omega | (dsimp only; omega))
            · skip
              try simp only [decide_eq_true_eq, decide_eq_false_iff_not, Bool.not_eq_true', Bool.not_eq_false', Bool.not_not, Bool.not_true, Bool.not_false, Bool.not_eq_true, Bool.not_eq_false, Int.not_lt, Int.not_le, Bool.and_eq_true, Bool.or_eq_true, Bool.and_eq_false_iff, Bool.or_eq_false_iff] at hc42
              refine r_exit rfl ?_
              refine r_seq ?_
              refine r_region' ?_
              refine l_o (o_call Try.call18 rfl (awake_ret _) rfl ?_)
              rintro _ w63 ⟨rfl, hE63⟩
              replace hB := below_ext hB hE63 hsz
              replace ho30 := own_ext ho30 hE63
              replace hos30 := hos30.ext hE63
              replace ho33 := own_ext ho33 hE63
              replace hos33 := hos33.ext hE63
              replace hsz := Nat.le_trans hsz hE63.size
              refine l_q (q_assign (v := .bool _) rfl rfl) ?_
              refine l_nil ?_
              refine r_forget [(10, .bool _)] ⟨rfl, trivial⟩ (fun e64 => ?_)
              refine r_ret_ (vs := [.bool _]) rfl Try.func12 rfl (.nil _) ⟨rfl, trivial⟩ ?_
              exact ⟨rfl, Ext.of_below hB⟩
        · skip
          have hbl_b1 := hb1.lt
          refine m_o3 rfl rfl (o_buildSlice (el := 9) (cs := []) Try.underlying22 el9 (by decide) (by kernel_rfl) rfl (by decide) rfl ?_)
          intro b65 w65 hzl65 hzr65 _ hb65 hE65 ho65
          refine ⟨(fun hx => hx.ext hE65), ?_⟩
          have hne_b1_b65 : b1 ≠ b65 := by have := hb1.lt; omega
          have hbs_b65 : w.heap.size ≤ b65 := Nat.le_trans hsz hzl65
          replace hB := below_ext hB hE65 hsz
          replace hb1 := hb1.ext hE65
          replace hsz := Nat.le_trans hsz hE65.size
          replace ho65 := own_mono ho65 (show b1 + 1 ≤ _ by omega)
          refine m_fork3 ?_ ?_
          · skip
            refine m_o3 rfl rfl (o_alloct Try.zeroValue24 rfl rfl ?_)
            intro b66 w66 hzl66 hzr66 _ hb66 htya hE66
            refine ⟨(fun hx => hx.ext hE66), ?_⟩
            have hne_b1_b66 : b1 ≠ b66 := by have := hb1.lt; omega
            have hbs_b66 : w.heap.size ≤ b66 := Nat.le_trans hsz hzl66
            replace hB := below_ext hB hE66 hsz
            replace hb1 := hb1.ext hE66
            replace ho65 := own_ext ho65 hE66
            replace hsz := Nat.le_trans hsz hE66.size
            have hbl_b1 := hb1.lt
            have hbl_b66 := hb66.lt
            refine m_o3 rfl rfl (o_append_map (f := vstr) ([]) ((c).drop k) Try.underlying22 el9 rfl rfl ho65 rfl (hr21.below hB) (fun _ => rfl) (by (try simp only [List.length_append, List.length_cons, List.length_nil, List.length_take, List.length_drop, List.length_replicate]); omega) (by omega) rfl ?_)
            intro a67 c67 w67 hz67 ho67 hG67
            refine ⟨(fun hx => hx.step hG67 (own_ne ho65 (by omega))), ?_⟩
            replace hB := below_own hB hG67 ho65 (by omega) hsz
            replace hsz := Nat.le_trans hsz hG67.size
            replace hb1 := hb1.step hG67 (own_ne ho65 (by omega))
            replace hb66 := hb66.step hG67 (own_ty_ne ho65 htya (by decide))
            replace htya := htya.own ho65 hG67 (by decide)
            have hbl_b1 := hb1.lt
            have hbl_b66 := hb66.lt
            refine m_o3 rfl rfl (o_append_map (f := vstr) ([] ++ ((c).drop k)) ((c).take k) Try.underlying22 el9 rfl rfl ho67 rfl (hr22.below hB) (fun _ => rfl) (by (try simp only [List.length_append, List.length_cons, List.length_nil, List.length_take, List.length_drop, List.length_replicate]); omega) (by omega) rfl ?_)
            intro a68 c68 w68 hz68 ho68 hG68
            refine ⟨(fun hx => hx.step hG68 (own_ne ho67 (by omega))), ?_⟩
            replace hB := below_own hB hG68 ho67 (by omega) hsz
            replace hsz := Nat.le_trans hsz hG68.size
            replace hb1 := hb1.step hG68 (own_ne ho67 (by omega))
            replace hb66 := hb66.step hG68 (own_ty_ne ho67 htya (by decide))
            replace htya := htya.own ho67 hG68 (by decide)
            refine m_q3 rfl rfl (fun w' hC' => q_build (v := .agg ⟨[.slice a68 ((([] ++ ((c).drop k)) ++ ((c).take k)).length) c68]⟩) (fun w => by kernel_rfl) rfl) ?_
            refine m_last3 rfl rfl rfl (o_store (vs := [.slice a68 ((([] ++ ((c).drop k)) ++ ((c).take k)).length) c68]) (cs' := [.slice a68 ((([] ++ ((c).drop k)) ++ ((c).take k)).length) c68]) Try.sizeOf24 rfl rfl rfl rfl hb66 (Nat.le_of_ble_eq_true rfl) rfl rfl ?_)
            intro w69 hz69 hb66 hG69
            replace hB := below_upd hB hG69 hsz (by omega)
            replace hsz : w.heap.size ≤ w69.heap.size := by rw [hz69]; exact hsz
            replace hb1 := hb1.upd hG69 (by omega)
            replace ho68 := own_ty_upd ho68 htya hG69 (by decide)
            refine m_nil3 ?_
            refine r_forget [(1, .string _), (2, .int _ _), (3, .int _ _), (5, .pointer _), (11, .int _ _), (12, .int _ _), (13, .pointer _)] ⟨rfl, rfl, rfl, rfl, rfl, rfl, rfl, trivial⟩ (fun e70 => ?_)
            refine r_seq ?_
            have hn4 : (le % 4).toNat ≤ 3 := by omega
            have hxf := rot_fault hfc hkc
            have hxl := rotC_len c k
            have hxc : ∀ s ∈ rotC c k, s.length ≤ 2097152 := fun s hs => (List.mem_append.1 hs).elim (fun h => hcl s (List.mem_of_mem_drop h)) (fun h => hcl s (List.mem_of_mem_take h))
            have hren := rot_ren hkc
            refine r_region' ?_
            refine l_q (q_load_agg (n := 1) Try.isAgg24 Try.sizeOf24 rfl ((hb1.cells' (cs' := [_]) 0 1 rfl)) rfl rfl) ?_
            refine l_o (o_call Try.call20 rfl (code_ret _ _ c _ (hrow.below hB) (by omega)) rfl ?_)
            rintro _ w71 ⟨ca71, cc71, rfl, hrc71, hE71⟩
            replace hB := below_ext hB hE71 hsz
            replace hb1 := hb1.ext hE71
            replace hb66 := hb66.ext hE71
            replace ho68 := own_ext ho68 hE71
            replace hsz := Nat.le_trans hsz hE71.size
            refine l_q (q_move (v := .string _) rfl rfl) ?_
            refine l_q (q_move (v := .int _ _) rfl rfl) ?_
            refine l_q (q_toInt Try.underlying5 Try.underlying3 rfl (by omega) rfl) ?_
            refine l_q (q_rem rfl rfl (by omega) rfl) ?_
            refine l_q (q_move (v := .int _ _) rfl rfl) ?_
            refine l_q (q_toInt Try.underlying5 Try.underlying3 rfl (by omega) rfl) ?_
            refine l_q (q_rem rfl rfl (by omega) rfl) ?_
            refine l_o (o_call Try.call32 rfl (texts2_ret _ _ (c) rd (er % 4) (le % 4) _ hrc71 (by omega) hcl (by omega)) rfl ?_)
            have hszp72 : w.heap.size ≤ w71.heap.size := hsz
            have hbl_b1 := hb1.lt
            have hbl_b66 := hb66.lt
            rintro _ w72 ⟨oa72, oc72, L72, rfl, ho72, hos72, hm72, hE72⟩
            replace ho72 := own_mono ho72 (show b1 + 1 ≤ _ by omega)
            replace hB := below_ext hB hE72 hsz
            replace hb1 := hb1.ext hE72
            replace hb66 := hb66.ext hE72
            replace ho68 := own_ext ho68 hE72
            replace hrc71 := hrc71.ext hE72
            replace hsz := Nat.le_trans hsz hE72.size
            have hEA : txErr (c) rd (er % 4) (le % 4) = 0 := txErr_zero hfc hck (by omega)
            have hMA := (hm72).trans (txL_spec hEA)
            obtain ⟨hlA, hsA, htA⟩ := texts_sv hMA (by omega) (by omega)
            refine l_q (q_move (v := .tuple _) rfl rfl) ?_
            refine l_q (q_extract (vs := [_, _]) (v := .slice _ _ _) rfl rfl rfl) ?_
            refine l_q (q_extract (vs := [_, _]) (v := .int _ _) rfl rfl rfl) ?_
            refine l_q (q_assign (v := .slice _ _ _) rfl rfl) ?_
            refine l_q (q_assign (v := .int _ _) rfl rfl) ?_
            refine l_nil ?_
            refine r_forget [(1, .string _), (2, .int _ _), (3, .int _ _), (11, .int _ _), (12, .int _ _), (13, .pointer _), (14, .slice _ _ _), (15, .int _ _)] ⟨rfl, rfl, rfl, rfl, rfl, rfl, rfl, rfl, trivial⟩ (fun e73 => ?_)
            refine r_seq ?_
            refine r_region' ?_
            refine l_q (q_load_agg (n := 1) Try.isAgg24 Try.sizeOf24 rfl ((hb66.cells' (cs' := [_]) 0 1 rfl)) rfl rfl) ?_
            refine l_o (o_call Try.call20 rfl (code_ret _ _ (rotC c k) _ (Row.of_owns ho68) (by rw [hxl]; omega)) rfl ?_)
            rintro _ w74 ⟨ca74, cc74, rfl, hrc74, hE74⟩
            replace hB := below_ext hB hE74 hsz
            replace hb1 := hb1.ext hE74
            replace hb66 := hb66.ext hE74
            replace ho68 := own_ext ho68 hE74
            replace hrc71 := hrc71.ext hE74
            replace ho72 := own_ext ho72 hE74
            replace hos72 := hos72.ext hE74
            replace hsz := Nat.le_trans hsz hE74.size
            refine l_q (q_move (v := .string _) rfl rfl) ?_
            refine l_q (q_move (v := .int _ _) rfl rfl) ?_
            refine l_q (q_toInt Try.underlying5 Try.underlying3 rfl (by omega) rfl) ?_
            refine l_q (q_rem rfl rfl (by omega) rfl) ?_
            refine l_q (q_move (v := .int _ _) rfl rfl) ?_
            refine l_q (q_toInt Try.underlying5 Try.underlying3 rfl (by omega) rfl) ?_
            refine l_q (q_rem rfl rfl (by omega) rfl) ?_
            refine l_o (o_call Try.call32 rfl (texts2_ret _ _ (rotC c k) rd (er % 4) (le % 4) _ hrc74 (by rw [hxl]; omega) hxc (by omega)) rfl ?_)
            have hszp75 : w.heap.size ≤ w74.heap.size := hsz
            have hbl_b1 := hb1.lt
            have hbl_b66 := hb66.lt
            rintro _ w75 ⟨oa75, oc75, L75, rfl, ho75, hos75, hm75, hE75⟩
            replace ho75 := own_mono ho75 (show b1 + 1 ≤ _ by omega)
            replace hB := below_ext hB hE75 hsz
            replace hb1 := hb1.ext hE75
            replace hb66 := hb66.ext hE75
            replace ho68 := own_ext ho68 hE75
            replace hrc71 := hrc71.ext hE75
            replace ho72 := own_ext ho72 hE75
            replace hos72 := hos72.ext hE75
            replace hrc74 := hrc74.ext hE75
            replace hsz := Nat.le_trans hsz hE75.size
            have hEB : txErr (rotC c k) rd (er % 4) (le % 4) = 0 := txErr_zero hxf hck (by omega)
            have hMB := (hm75).trans (txL_spec hEB)
            obtain ⟨hlB, hsB, htB⟩ := texts_sv hMB (by rw [hxl]; omega) (by omega)
            refine l_q (q_move (v := .tuple _) rfl rfl) ?_
            refine l_q (q_extract (vs := [_, _]) (v := .slice _ _ _) rfl rfl rfl) ?_
            refine l_q (q_extract (vs := [_, _]) (v := .int _ _) rfl rfl rfl) ?_
            refine l_q (q_assign (v := .slice _ _ _) rfl rfl) ?_
            refine l_q (q_assign (v := .int _ _) rfl rfl) ?_
            refine l_nil ?_
            refine r_forget [(11, .int _ _), (12, .int _ _), (14, .slice _ _ _), (15, .int _ _), (16, .slice _ _ _), (17, .int _ _)] ⟨rfl, rfl, rfl, rfl, rfl, rfl, trivial⟩ (fun e76 => ?_)
            refine r_seq ?_
            refine r_seq ?_
            have hlen : (L72).length = (L75).length := by have h1 := congrArg List.length hMA; have h2 := congrArg List.length hMB; rw [List.length_map] at h1 h2; rw [h1, h2, rot_texts_len hkc]
            refine r_region' ?_
            refine l_q (q_move (v := .int _ _) rfl rfl) ?_
            refine l_q (q_neq rfl rfl rfl) ?_
            refine l_q (q_move (v := .bool _) rfl rfl) ?_
            have hk77 : (!decide ((txErr (c) rd (er % 4) (le % 4)) = 0)) = false := by rw [hEA]; rfl
            refine l_part 83 rfl (fun hx => absurd (hk77.symm.trans hx) (by decide)) (fun _ => ?_)
            refine l_q (q_move (v := .int _ _) rfl rfl) ?_
            refine l_q (q_neq rfl rfl rfl) ?_
            refine l_q (q_pick_f (v := .bool _) rfl rfl rfl) ?_
            refine l_q (q_move (v := .bool _) rfl rfl) ?_
            have hk78 : (!decide ((txErr (rotC c k) rd (er % 4) (le % 4)) = 0)) = false := by rw [hEB]; rfl
            refine l_part 87 rfl (fun hx => absurd (hk78.symm.trans hx) (by decide)) (fun _ => ?_)
            refine l_q (q_move (v := .slice _ _ _) rfl rfl) ?_
            refine l_q (q_len rfl Try.underlying48 rfl rfl) ?_
            refine l_q (q_move (v := .slice _ _ _) rfl rfl) ?_
            refine l_q (q_len rfl Try.underlying48 rfl rfl) ?_
            refine l_q (q_neq rfl rfl rfl) ?_
            refine l_q (q_pick_f (v := .bool _) rfl rfl rfl) ?_
            refine l_nil ?_
            refine r_forget [(11, .int _ _), (12, .int _ _), (14, .slice _ _ _), (16, .slice _ _ _), (93, .bool _)] ⟨rfl, rfl, rfl, rfl, rfl, trivial⟩ (fun e79 => ?_)
            have hk80 : (!decide (((L72).length : Int) = ((L75).length : Int))) = false := by rw [hlen]; simp
            refine r_cond_f ((congrArg Value.bool hk80 : Value.bool _ = _)) ?_
            refine r_skip ?_
            refine r_seq ?_
            refine r_seq ?_
            refine r_region' ?_
            refine l_q (q_assign (v := .int _ _) rfl rfl) ?_
            refine l_nil ?_
            refine r_forget [(11, .int _ _), (12, .int _ _), (14, .slice _ _ _), (16, .slice _ _ _), (18, .int _ _)] ⟨rfl, rfl, rfl, rfl, rfl, trivial⟩ (fun e81 => ?_)
            refine r_block ?_
            refine r_rounds (α := Nat) (fun i e wl => Knows e [(11, vint (c.length : Int)), (12, vint (k : Int)), (14, .slice oa72 ((L72).length) oc72), (16, .slice oa75 ((L75).length) oc75), (18, vint (i : Int))] ∧ (i ≤ (L72).length) ∧ (wl.ownsRow (b1 + 1) 25 1 (.slice oa72 ((L72).length) oc72) ((L72).length) ((L72).map SV.enc)) ∧ (OwnsI wl w71.heap.size 3 L72) ∧ (wl.ownsRow (b1 + 1) 25 1 (.slice oa75 ((L75).length) oc75) ((L75).length) ((L75).map SV.enc)) ∧ (OwnsI wl w74.heap.size 3 L75) ∧ (w.heap.size ≤ wl.heap.size) ∧ (Below w.heap.size w wl)) (fun i => (L72).length - i) 0 ?_ ?_
            · skip
              exact ⟨⟨rfl, rfl, rfl, rfl, rfl, trivial⟩, (Nat.zero_le _), ho72, hos72, ho75, hos75, hsz, hB⟩
            · skip
              rintro i el82 wl82 ⟨hkn, hki, ho72, hos72, ho75, hos75, hsz, hB⟩ ih82
              obtain ⟨e82, rfl⟩ := knows_env hkn
              refine r_seq ?_
              refine r_seq ?_
              refine r_region' ?_
              refine l_q (q_move (v := .int _ _) rfl rfl) ?_
              refine l_q (q_move (v := .slice _ _ _) rfl rfl) ?_
              refine l_q (q_len rfl Try.underlying48 rfl rfl) ?_
              refine l_q (q_lss rfl rfl rfl) ?_
              refine l_nil ?_
              refine r_forget [(11, .int _ _), (12, .int _ _), (14, .slice _ _ _), (16, .slice _ _ _), (18, .int _ _), (97, .bool _)] ⟨rfl, rfl, rfl, rfl, rfl, rfl, trivial⟩ (fun e83 => ?_)
              refine r_cond rfl (fun hc84 => ?_) (fun hc84 => ?_)
              · skip
                try simp only [decide_eq_true_eq, decide_eq_false_iff_not, Bool.not_eq_true', Bool.not_eq_false', Bool.not_not, Bool.not_true, Bool.not_false, Bool.not_eq_true, Bool.not_eq_false, Int.not_lt, Int.not_le, Bool.and_eq_true, Bool.or_eq_true, Bool.and_eq_false_iff, Bool.or_eq_false_iff] at hc84
                have hi1 := Int.ofNat_lt.1 hc84
                have hea := hsA _ (getD_lt (d := sv0) hi1)
                have hin := hren.mem (show _ ∈ texts c rd (er % 4) (le % 4).toNat by rw [← hMA]; exact List.mem_of_getElem? (sv_at hi1))
                have hit := isText_iff.1 (mem_texts.1 (show _ ∈ texts c rd (er % 4) (le % 4).toNat by rw [← hMA]; exact List.mem_of_getElem? (sv_at hi1))).2.1
                refine r_skip ?_
                refine r_seq ?_
                refine r_block ?_
                refine r_seq ?_
                refine r_region' ?_
                refine l_q (q_assign (v := .slice _ _ _) rfl rfl) ?_
                refine l_nil ?_
                refine r_forget [(11, .int _ _), (12, .int _ _), (14, .slice _ _ _), (16, .slice _ _ _), (18, .int _ _), (19, .slice _ _ _)] ⟨rfl, rfl, rfl, rfl, rfl, rfl, trivial⟩ (fun e85 => ?_)
                refine r_seq ?_
                refine r_seq ?_
                have hlt_ho72 : ∀ g, (Value.slice oa72 ((L72).length) oc72).ownBlock = some g → g < wl82.heap.size := fun g hg => (ho72.lt g hg).2
                have hlt_hos72 := OwnsI.ltB hos72
                have hlt_ho75 : ∀ g, (Value.slice oa75 ((L75).length) oc75).ownBlock = some g → g < wl82.heap.size := fun g hg => (ho75.lt g hg).2
                have hlt_hos75 := OwnsI.ltB hos75
                have hszx86 : w.heap.size ≤ wl82.heap.size := hsz
                have hszy : wl82.heap.size ≤ wl82.heap.size := Nat.le_refl _
                refine r_region' ?_
                refine l_q (q_assign (v := .int _ _) rfl rfl) ?_
                refine l_nil ?_
                refine r_block ?_
                refine r_rounds (α := Nat × (Option Addr) × Nat) (fun ⟨l, oa, oc⟩ e wl => Knows e [(11, vint (c.length : Int)), (12, vint (k : Int)), (14, .slice oa72 ((L72).length) oc72), (16, .slice oa75 ((L75).length) oc75), (18, vint (i : Int)), (19, .slice oa (((((L72).getD i sv0).xs.take l).map (rotN c.length k)).length) oc), (20, vint (l : Int))] ∧ (l ≤ ((L72).getD i sv0).xs.length) ∧ (wl.ownsRow wl82.heap.size 3 1 (.slice oa (((((L72).getD i sv0).xs.take l).map (rotN c.length k)).length) oc) (((((L72).getD i sv0).xs.take l).map (rotN c.length k)).length) (((((L72).getD i sv0).xs.take l).map (rotN c.length k)).map vint)) ∧ (wl.ownsRow (b1 + 1) 25 1 (.slice oa72 ((L72).length) oc72) ((L72).length) ((L72).map SV.enc)) ∧ (OwnsI wl w71.heap.size 3 L72) ∧ (wl.ownsRow (b1 + 1) 25 1 (.slice oa75 ((L75).length) oc75) ((L75).length) ((L75).map SV.enc)) ∧ (OwnsI wl w74.heap.size 3 L75) ∧ (wl82.heap.size ≤ wl.heap.size) ∧ (w.heap.size ≤ wl.heap.size) ∧ (Below w.heap.size w wl)) (fun ⟨l, oa, oc⟩ => ((L72).getD i sv0).xs.length - l) (0, none, 0) ?_ ?_
                · skip
                  exact ⟨⟨rfl, rfl, rfl, rfl, rfl, rfl, rfl, trivial⟩, (Nat.zero_le _), (World.ownsRow_nil _ _ _ _), ho72, hos72, ho75, hos75, hszy, hsz, hB⟩
                · skip
                  rintro ⟨l, oa, oc⟩ el87 wl87 ⟨hkn, hkl, hox, ho72, hos72, ho75, hos75, hszy, hsz, hB⟩ ih87
                  obtain ⟨e87, rfl⟩ := knows_env hkn
                  refine r_seq ?_
                  refine r_seq ?_
                  refine r_region' ?_
                  refine l_q (q_move (v := .int _ _) rfl rfl) ?_
                  refine l_q (q_move (v := .slice _ _ _) rfl rfl) ?_
                  refine l_q (q_move (v := .int _ _) rfl rfl) ?_
                  have hr89 := hos72.rows.get (i := i) (by omega)
                  obtain ⟨b88, o88, ha88, hh88⟩ := (Row.of_owns ho72).at1 i ((L72).getD i sv0) (getD_some (by omega))
                  refine l_q (q_indexAddr1 Try.underlying48 Try.sizeOf25 rfl ha88 rfl (by omega) rfl) ?_
                  refine l_q (q_load Try.isAgg25 rfl (hh88) rfl) ?_
                  refine l_q (q_len rfl Try.underlying25 rfl rfl) ?_
                  refine l_q (q_lss rfl rfl rfl) ?_
                  refine l_nil ?_
                  refine r_forget [(11, .int _ _), (12, .int _ _), (14, .slice _ _ _), (16, .slice _ _ _), (18, .int _ _), (19, .slice _ _ _), (20, .int _ _), (106, .bool _)] ⟨rfl, rfl, rfl, rfl, rfl, rfl, rfl, rfl, trivial⟩ (fun e90 => ?_)
                  refine r_cond rfl (fun hc91 => ?_) (fun hc91 => ?_)
                  · skip
                    try simp only [decide_eq_true_eq, decide_eq_false_iff_not, Bool.not_eq_true', Bool.not_eq_false', Bool.not_not, Bool.not_true, Bool.not_false, Bool.not_eq_true, Bool.not_eq_false, Int.not_lt, Int.not_le, Bool.and_eq_true, Bool.or_eq_true, Bool.and_eq_false_iff, Bool.or_eq_false_iff] at hc91
                    have hll := Int.ofNat_lt.1 hc91
                    have hlr := hit _ (getD_lt (d := 0) hll)
                    refine r_skip ?_
                    refine r_seq ?_
                    refine r_block ?_
                    refine r_region' ?_
                    refine l_q (q_move (v := .slice _ _ _) rfl rfl) ?_
                    refine l_q (q_move (v := .slice _ _ _) rfl rfl) ?_
                    refine l_q (q_move (v := .int _ _) rfl rfl) ?_
                    have hr93 := hos72.rows.get (i := i) (by omega)
                    obtain ⟨b92, o92, ha92, hh92⟩ := (Row.of_owns ho72).at1 i ((L72).getD i sv0) (getD_some (by omega))
                    refine l_q (q_indexAddr1 Try.underlying48 Try.sizeOf25 rfl ha92 rfl (by omega) rfl) ?_
                    refine l_q (q_load Try.isAgg25 rfl (hh92) rfl) ?_
                    refine l_q (q_move (v := .int _ _) rfl rfl) ?_
                    obtain ⟨b94, o94, ha94, hh94⟩ := hr93.at1 l ((((L72).getD i sv0).xs).getD l 0) (getD_some (by omega))
                    refine l_q (q_indexAddr1 Try.underlying25 Try.sizeOf3 rfl ha94 rfl (by omega) rfl) ?_
                    refine l_q (q_load Try.isAgg3 rfl (hh94) rfl) ?_
                    refine l_q (q_move (v := .int _ _) rfl rfl) ?_
                    refine l_q (q_add rfl rfl (by omega) rfl) ?_
                    refine l_q (q_move (v := .int _ _) rfl rfl) ?_
                    refine l_q (q_sub rfl rfl (by omega) rfl) ?_
                    refine l_q (q_move (v := .int _ _) rfl rfl) ?_
                    refine l_q (q_rem rfl rfl (by omega) rfl) ?_
                    have hszz95 := hszy
                    refine l_o (o_buildSlice (el := 3) (cs := [vint (((((((L72).getD i sv0).xs).getD l 0) + (c.length : Int)) - (k : Int)) % (c.length : Int))]) Try.underlying25 el3 (by decide) (by kernel_rfl) rfl (by decide) rfl ?_)
                    intro b96 w96 hzl96 hzr96 _ hb96 hE96 ho96
                    have hbs_b96 : w.heap.size ≤ b96 := Nat.le_trans hsz hzl96
                    replace hB := below_ext hB hE96 hsz
                    replace ho72 := own_ext ho72 hE96
                    replace hos72 := hos72.ext hE96
                    replace ho75 := own_ext ho75 hE96
                    replace hos75 := hos75.ext hE96
                    replace hszy := Nat.le_trans hszy hE96.size
                    replace hox := own_ext hox hE96
                    replace hr89 := hr89.ext hE96
                    replace hr93 := hr93.ext hE96
                    replace hsz := Nat.le_trans hsz hE96.size
                    replace ho96 := own_mono ho96 (show wl82.heap.size ≤ _ by omega)
                    have hszz97 := hszy
                    refine l_o (o_append_map (f := vint) ((((L72).getD i sv0).xs.take l).map (rotN c.length k)) ([((((((L72).getD i sv0).xs).getD l 0) + (c.length : Int)) - (k : Int)) % (c.length : Int)]) Try.underlying25 el3 rfl rfl hox rfl (Row.of_owns ho96) (fun _ => rfl) (by simp only [List.length_map, List.length_take, List.length_cons, List.length_nil]; omega) (by omega) rfl ?_)
                    intro a98 c98 w98 hz98 ho98 hG98
                    replace hB := below_own hB hG98 hox (by omega) hsz
                    replace hsz := Nat.le_trans hsz hG98.size
                    replace ho72 := own_sep ho72 hlt_ho72 hox hG98
                    replace hos72 := OwnsI.sep hos72 hlt_hos72 hox hG98
                    replace ho75 := own_sep ho75 hlt_ho75 hox hG98
                    replace hos75 := OwnsI.sep hos75 hlt_hos75 hox hG98
                    replace hszy := Nat.le_trans hszy hG98.size
                    refine l_q (q_assign (v := .slice _ _ _) rfl rfl) ?_
                    refine l_nil ?_
                    refine r_forget [(11, .int _ _), (12, .int _ _), (14, .slice _ _ _), (16, .slice _ _ _), (18, .int _ _), (19, .slice _ _ _), (20, .int _ _)] ⟨rfl, rfl, rfl, rfl, rfl, rfl, rfl, trivial⟩ (fun e99 => ?_)
                    refine r_inBlock ?_
                    refine r_region' ?_
                    refine l_q (q_move (v := .int _ _) rfl rfl) ?_
                    refine l_q (q_add rfl rfl (by omega) rfl) ?_
                    refine l_q (q_assign (v := .int _ _) rfl rfl) ?_
                    refine l_nil ?_
                    refine r_forget [(11, .int _ _), (12, .int _ _), (14, .slice _ _ _), (16, .slice _ _ _), (18, .int _ _), (19, .slice _ _ _), (20, .int _ _)] ⟨rfl, rfl, rfl, rfl, rfl, rfl, rfl, trivial⟩ (fun e100 => ?_)
                    have hst := rot_step (N := c.length) (k := k) hll
                    exact ih87 (l + 1, a98, c98) _ _ ⟨⟨rfl, rfl, rfl, rfl, rfl, (congrArg (fun z => Value.slice _ (List.length z) _) hst), by first | rfl | exact vint_eq (by omega), trivial⟩, (by omega), (hst ▸ ho98), ho72, hos72, ho75, hos75, hszy, hsz, hB⟩ (by first | omega | (dsimp only; omega))
                  · skip
                    try simp only [decide_eq_true_eq, decide_eq_false_iff_not, Bool.not_eq_true', Bool.not_eq_false', Bool.not_not, Bool.not_true, Bool.not_false, Bool.not_eq_true, Bool.not_eq_false, Int.not_lt, Int.not_le, Bool.and_eq_true, Bool.or_eq_true, Bool.and_eq_false_iff, Bool.or_eq_false_iff] at hc91
                    have hll := Int.ofNat_le.1 hc91
                    refine r_exit rfl ?_
                    refine r_seq ?_
                    refine r_region' ?_
                    refine l_q (q_move (v := .slice _ _ _) rfl rfl) ?_
                    refine l_q (q_move (v := .slice _ _ _) rfl rfl) ?_
                    refine l_o (o_call Try.call42 rfl (lhas_ret _ _ L75 _ _ ((((L72).getD i sv0).xs.take l).map (rotN c.length k)) _ (Row.of_owns ho75) hos75.rows (by omega) htB (Row.of_owns hox) (by rw [List.length_map, List.length_take]; omega)) rfl ?_)
                    rintro _ w101 ⟨rfl, hE101⟩
                    replace hB := below_ext hB hE101 hsz
                    replace ho72 := own_ext ho72 hE101
                    replace hos72 := hos72.ext hE101
                    replace ho75 := own_ext ho75 hE101
                    replace hos75 := hos75.ext hE101
                    replace hszy := Nat.le_trans hszy hE101.size
                    replace hox := own_ext hox hE101
                    replace hr89 := hr89.ext hE101
                    replace hsz := Nat.le_trans hsz hE101.size
                    refine l_q (q_not rfl rfl) ?_
                    refine l_nil ?_
                    refine r_forget [(11, .int _ _), (12, .int _ _), (14, .slice _ _ _), (16, .slice _ _ _), (18, .int _ _), (128, .bool _)] ⟨rfl, rfl, rfl, rfl, rfl, rfl, trivial⟩ (fun e102 => ?_)
                    have hk103 : (!(((L75).map (·.xs)).contains ((((L72).getD i sv0).xs.take l).map (rotN c.length k)))) = false := by rw [List.take_of_length_le hll, show (List.contains _ _) = true from List.contains_iff_mem.2 (by rw [hMB]; exact hin)]; rfl
                    refine r_cond_f ((congrArg Value.bool hk103 : Value.bool _ = _)) ?_
                    refine r_skip ?_
                    refine r_inBlock ?_
                    refine r_region' ?_
                    refine l_q (q_move (v := .int _ _) rfl rfl) ?_
                    refine l_q (q_add rfl rfl (by omega) rfl) ?_
                    refine l_q (q_assign (v := .int _ _) rfl rfl) ?_
                    refine l_nil ?_
                    refine r_forget [(11, .int _ _), (12, .int _ _), (14, .slice _ _ _), (16, .slice _ _ _), (18, .int _ _)] ⟨rfl, rfl, rfl, rfl, rfl, trivial⟩ (fun e104 => ?_)
                    exact ih82 (i + 1) _ _ ⟨⟨rfl, rfl, rfl, rfl, by first | rfl | exact vint_eq (by omega), trivial⟩, (by omega), ho72, hos72, ho75, hos75, hsz, hB⟩ (by first | omega | (dsimp only; omega))
              · skip
                try simp only [decide_eq_true_eq, decide_eq_false_iff_not, Bool.not_eq_true', Bool.not_eq_false', Bool.not_not, Bool.not_true, Bool.not_false, Bool.not_eq_true, Bool.not_eq_false, Int.not_lt, Int.not_le, Bool.and_eq_true, Bool.or_eq_true, Bool.and_eq_false_iff, Bool.or_eq_false_iff] at hc84
                refine r_exit rfl ?_
                refine r_seq ?_
                refine r_region' ?_
                refine l_o (o_call Try.call18 rfl (awake_ret _) rfl ?_)
                rintro _ w105 ⟨rfl, hE105⟩
                replace hB := below_ext hB hE105 hsz
                replace ho72 := own_ext ho72 hE105
                replace hos72 := hos72.ext hE105
                replace ho75 := own_ext ho75 hE105
                replace hos75 := hos75.ext hE105
                replace hsz := Nat.le_trans hsz hE105.size
                refine l_q (q_assign (v := .bool _) rfl rfl) ?_
                refine l_nil ?_
                refine r_forget [(10, .bool _)] ⟨rfl, trivial⟩ (fun e106 => ?_)
                refine r_ret_ (vs := [.bool _]) rfl Try.func12 rfl (.nil _) ⟨rfl, trivial⟩ ?_
                exact ⟨rfl, Ext.of_below hB⟩
          · skip
            have hbl_b1 := hb1.lt
            refine m_o3 rfl rfl (o_append_map (f := vstr) ([]) ((c).drop k) Try.underlying22 el9 rfl rfl ho65 rfl (hr21.below hB) (fun _ => rfl) (by (try simp only [List.length_append, List.length_cons, List.length_nil, List.length_take, List.length_drop, List.length_replicate]); omega) (by omega) rfl ?_)
            intro a107 c107 w107 hz107 ho107 hG107
            refine ⟨(fun hx => hx.step hG107 (own_ne ho65 (by omega))), ?_⟩
            replace hB := below_own hB hG107 ho65 (by omega) hsz
            replace hsz := Nat.le_trans hsz hG107.size
            replace hb1 := hb1.step hG107 (own_ne ho65 (by omega))
            refine m_fork3 ?_ ?_
            · skip
              refine m_o3 rfl rfl (o_alloct Try.zeroValue24 rfl rfl ?_)
              intro b108 w108 hzl108 hzr108 _ hb108 htya hE108
              refine ⟨(fun hx => hx.ext hE108), ?_⟩
              have hne_b1_b108 : b1 ≠ b108 := by have := hb1.lt; omega
              have hbs_b108 : w.heap.size ≤ b108 := Nat.le_trans hsz hzl108
              replace hB := below_ext hB hE108 hsz
              replace hb1 := hb1.ext hE108
              replace ho107 := own_ext ho107 hE108
              replace hsz := Nat.le_trans hsz hE108.size
              have hbl_b1 := hb1.lt
              have hbl_b108 := hb108.lt
              refine m_o3 rfl rfl (o_append_map (f := vstr) ([] ++ ((c).drop k)) ((c).take k) Try.underlying22 el9 rfl rfl ho107 rfl (hr22.below hB) (fun _ => rfl) (by (try simp only [List.length_append, List.length_cons, List.length_nil, List.length_take, List.length_drop, List.length_replicate]); omega) (by omega) rfl ?_)
              intro a109 c109 w109 hz109 ho109 hG109
              refine ⟨(fun hx => hx.step hG109 (own_ne ho107 (by omega))), ?_⟩
              replace hB := below_own hB hG109 ho107 (by omega) hsz
              replace hsz := Nat.le_trans hsz hG109.size
              replace hb1 := hb1.step hG109 (own_ne ho107 (by omega))
              replace hb108 := hb108.step hG109 (own_ty_ne ho107 htya (by decide))
              replace htya := htya.own ho107 hG109 (by decide)
              refine m_q3 rfl rfl (fun w' hC' => q_build (v := .agg ⟨[.slice a109 ((([] ++ ((c).drop k)) ++ ((c).take k)).length) c109]⟩) (fun w => by kernel_rfl) rfl) ?_
              refine m_last3 rfl rfl rfl (o_store (vs := [.slice a109 ((([] ++ ((c).drop k)) ++ ((c).take k)).length) c109]) (cs' := [.slice a109 ((([] ++ ((c).drop k)) ++ ((c).take k)).length) c109]) Try.sizeOf24 rfl rfl rfl rfl hb108 (Nat.le_of_ble_eq_true rfl) rfl rfl ?_)
              intro w110 hz110 hb108 hG110
              replace hB := below_upd hB hG110 hsz (by omega)
              replace hsz : w.heap.size ≤ w110.heap.size := by rw [hz110]; exact hsz
              replace hb1 := hb1.upd hG110 (by omega)
              replace ho109 := own_ty_upd ho109 htya hG110 (by decide)
              refine m_nil3 ?_
              refine r_forget [(1, .string _), (2, .int _ _), (3, .int _ _), (5, .pointer _), (11, .int _ _), (12, .int _ _), (13, .pointer _)] ⟨rfl, rfl, rfl, rfl, rfl, rfl, rfl, trivial⟩ (fun e111 => ?_)
              refine r_seq ?_
              have hn4 : (le % 4).toNat ≤ 3 := by omega
              have hxf := rot_fault hfc hkc
              have hxl := rotC_len c k
              have hxc : ∀ s ∈ rotC c k, s.length ≤ 2097152 := fun s hs => (List.mem_append.1 hs).elim (fun h => hcl s (List.mem_of_mem_drop h)) (fun h => hcl s (List.mem_of_mem_take h))
              have hren := rot_ren hkc
              refine r_region' ?_
              refine l_q (q_load_agg (n := 1) Try.isAgg24 Try.sizeOf24 rfl ((hb1.cells' (cs' := [_]) 0 1 rfl)) rfl rfl) ?_
              refine l_o (o_call Try.call20 rfl (code_ret _ _ c _ (hrow.below hB) (by omega)) rfl ?_)
              rintro _ w112 ⟨ca112, cc112, rfl, hrc112, hE112⟩
              replace hB := below_ext hB hE112 hsz
              replace hb1 := hb1.ext hE112
              replace hb108 := hb108.ext hE112
              replace ho109 := own_ext ho109 hE112
              replace hsz := Nat.le_trans hsz hE112.size
              refine l_q (q_move (v := .string _) rfl rfl) ?_
              refine l_q (q_move (v := .int _ _) rfl rfl) ?_
              refine l_q (q_toInt Try.underlying5 Try.underlying3 rfl (by omega) rfl) ?_
              refine l_q (q_rem rfl rfl (by omega) rfl) ?_
              refine l_q (q_move (v := .int _ _) rfl rfl) ?_
              refine l_q (q_toInt Try.underlying5 Try.underlying3 rfl (by omega) rfl) ?_
              refine l_q (q_rem rfl rfl (by omega) rfl) ?_
              refine l_o (o_call Try.call32 rfl (texts2_ret _ _ (c) rd (er % 4) (le % 4) _ hrc112 (by omega) hcl (by omega)) rfl ?_)
              have hszp113 : w.heap.size ≤ w112.heap.size := hsz
              have hbl_b1 := hb1.lt
              have hbl_b108 := hb108.lt
              rintro _ w113 ⟨oa113, oc113, L113, rfl, ho113, hos113, hm113, hE113⟩
              replace ho113 := own_mono ho113 (show b1 + 1 ≤ _ by omega)
              replace hB := below_ext hB hE113 hsz
              replace hb1 := hb1.ext hE113
              replace hb108 := hb108.ext hE113
              replace ho109 := own_ext ho109 hE113
              replace hrc112 := hrc112.ext hE113
              replace hsz := Nat.le_trans hsz hE113.size
              have hEA : txErr (c) rd (er % 4) (le % 4) = 0 := txErr_zero hfc hck (by omega)
              have hMA := (hm113).trans (txL_spec hEA)
              obtain ⟨hlA, hsA, htA⟩ := texts_sv hMA (by omega) (by omega)
              refine l_q (q_move (v := .tuple _) rfl rfl) ?_
              refine l_q (q_extract (vs := [_, _]) (v := .slice _ _ _) rfl rfl rfl) ?_
              refine l_q (q_extract (vs := [_, _]) (v := .int _ _) rfl rfl rfl) ?_
              refine l_q (q_assign (v := .slice _ _ _) rfl rfl) ?_
              refine l_q (q_assign (v := .int _ _) rfl rfl) ?_
              refine l_nil ?_
              refine r_forget [(1, .string _), (2, .int _ _), (3, .int _ _), (11, .int _ _), (12, .int _ _), (13, .pointer _), (14, .slice _ _ _), (15, .int _ _)] ⟨rfl, rfl, rfl, rfl, rfl, rfl, rfl, rfl, trivial⟩ (fun e114 => ?_)
              refine r_seq ?_
              refine r_region' ?_
              refine l_q (q_load_agg (n := 1) Try.isAgg24 Try.sizeOf24 rfl ((hb108.cells' (cs' := [_]) 0 1 rfl)) rfl rfl) ?_
              refine l_o (o_call Try.call20 rfl (code_ret _ _ (rotC c k) _ (Row.of_owns ho109) (by rw [hxl]; omega)) rfl ?_)
              rintro _ w115 ⟨ca115, cc115, rfl, hrc115, hE115⟩
              replace hB := below_ext hB hE115 hsz
              replace hb1 := hb1.ext hE115
              replace hb108 := hb108.ext hE115
              replace ho109 := own_ext ho109 hE115
              replace hrc112 := hrc112.ext hE115
              replace ho113 := own_ext ho113 hE115
              replace hos113 := hos113.ext hE115
              replace hsz := Nat.le_trans hsz hE115.size
              refine l_q (q_move (v := .string _) rfl rfl) ?_
              refine l_q (q_move (v := .int _ _) rfl rfl) ?_
              refine l_q (q_toInt Try.underlying5 Try.underlying3 rfl (by omega) rfl) ?_
              refine l_q (q_rem rfl rfl (by omega) rfl) ?_
              refine l_q (q_move (v := .int _ _) rfl rfl) ?_
              refine l_q (q_toInt Try.underlying5 Try.underlying3 rfl (by omega) rfl) ?_
              refine l_q (q_rem rfl rfl (by omega) rfl) ?_
              refine l_o (o_call Try.call32 rfl (texts2_ret _ _ (rotC c k) rd (er % 4) (le % 4) _ hrc115 (by rw [hxl]; omega) hxc (by omega)) rfl ?_)
              have hszp116 : w.heap.size ≤ w115.heap.size := hsz
              have hbl_b1 := hb1.lt
              have hbl_b108 := hb108.lt
              rintro _ w116 ⟨oa116, oc116, L116, rfl, ho116, hos116, hm116, hE116⟩
              replace ho116 := own_mono ho116 (show b1 + 1 ≤ _ by omega)
              replace hB := below_ext hB hE116 hsz
              replace hb1 := hb1.ext hE116
              replace hb108 := hb108.ext hE116
              replace ho109 := own_ext ho109 hE116
              replace hrc112 := hrc112.ext hE116
              replace ho113 := own_ext ho113 hE116
              replace hos113 := hos113.ext hE116
              replace hrc115 := hrc115.ext hE116
              replace hsz := Nat.le_trans hsz hE116.size
              have hEB : txErr (rotC c k) rd (er % 4) (le % 4) = 0 := txErr_zero hxf hck (by omega)
              have hMB := (hm116).trans (txL_spec hEB)
              obtain ⟨hlB, hsB, htB⟩ := texts_sv hMB (by rw [hxl]; omega) (by omega)
              refine l_q (q_move (v := .tuple _) rfl rfl) ?_
              refine l_q (q_extract (vs := [_, _]) (v := .slice _ _ _) rfl rfl rfl) ?_
              refine l_q (q_extract (vs := [_, _]) (v := .int _ _) rfl rfl rfl) ?_
              refine l_q (q_assign (v := .slice _ _ _) rfl rfl) ?_
              refine l_q (q_assign (v := .int _ _) rfl rfl) ?_
              refine l_nil ?_
              refine r_forget [(11, .int _ _), (12, .int _ _), (14, .slice _ _ _), (15, .int _ _), (16, .slice _ _ _), (17, .int _ _)] ⟨rfl, rfl, rfl, rfl, rfl, rfl, trivial⟩ (fun e117 => ?_)
              refine r_seq ?_
              refine r_seq ?_
              have hlen : (L113).length = (L116).length := by have h1 := congrArg List.length hMA; have h2 := congrArg List.length hMB; rw [List.length_map] at h1 h2; rw [h1, h2, rot_texts_len hkc]
              refine r_region' ?_
              refine l_q (q_move (v := .int _ _) rfl rfl) ?_
              refine l_q (q_neq rfl rfl rfl) ?_
              refine l_q (q_move (v := .bool _) rfl rfl) ?_
              have hk118 : (!decide ((txErr (c) rd (er % 4) (le % 4)) = 0)) = false := by rw [hEA]; rfl
              refine l_part 83 rfl (fun hx => absurd (hk118.symm.trans hx) (by decide)) (fun _ => ?_)
              refine l_q (q_move (v := .int _ _) rfl rfl) ?_
              refine l_q (q_neq rfl rfl rfl) ?_
              refine l_q (q_pick_f (v := .bool _) rfl rfl rfl) ?_
              refine l_q (q_move (v := .bool _) rfl rfl) ?_
              have hk119 : (!decide ((txErr (rotC c k) rd (er % 4) (le % 4)) = 0)) = false := by rw [hEB]; rfl
              refine l_part 87 rfl (fun hx => absurd (hk119.symm.trans hx) (by decide)) (fun _ => ?_)
              refine l_q (q_move (v := .slice _ _ _) rfl rfl) ?_
              refine l_q (q_len rfl Try.underlying48 rfl rfl) ?_
              refine l_q (q_move (v := .slice _ _ _) rfl rfl) ?_
              refine l_q (q_len rfl Try.underlying48 rfl rfl) ?_
              refine l_q (q_neq rfl rfl rfl) ?_
              refine l_q (q_pick_f (v := .bool _) rfl rfl rfl) ?_
              refine l_nil ?_
              refine r_forget [(11, .int _ _), (12, .int _ _), (14, .slice _ _ _), (16, .slice _ _ _), (93, .bool _)] ⟨rfl, rfl, rfl, rfl, rfl, trivial⟩ (fun e120 => ?_)
              have hk121 : (!decide (((L113).length : Int) = ((L116).length : Int))) = false := by rw [hlen]; simp
              refine r_cond_f ((congrArg Value.bool hk121 : Value.bool _ = _)) ?_
              refine r_skip ?_
              refine r_seq ?_
              refine r_seq ?_
              refine r_region' ?_
              refine l_q (q_assign (v := .int _ _) rfl rfl) ?_
              refine l_nil ?_
              refine r_forget [(11, .int _ _), (12, .int _ _), (14, .slice _ _ _), (16, .slice _ _ _), (18, .int _ _)] ⟨rfl, rfl, rfl, rfl, rfl, trivial⟩ (fun e122 => ?_)
              refine r_block ?_
              refine r_rounds (α := Nat) (fun i e wl => Knows e [(11, vint (c.length : Int)), (12, vint (k : Int)), (14, .slice oa113 ((L113).length) oc113), (16, .slice oa116 ((L116).length) oc116), (18, vint (i : Int))] ∧ (i ≤ (L113).length) ∧ (wl.ownsRow (b1 + 1) 25 1 (.slice oa113 ((L113).length) oc113) ((L113).length) ((L113).map SV.enc)) ∧ (OwnsI wl w112.heap.size 3 L113) ∧ (wl.ownsRow (b1 + 1) 25 1 (.slice oa116 ((L116).length) oc116) ((L116).length) ((L116).map SV.enc)) ∧ (OwnsI wl w115.heap.size 3 L116) ∧ (w.heap.size ≤ wl.heap.size) ∧ (Below w.heap.size w wl)) (fun i => (L113).length - i) 0 ?_ ?_
              · skip
                exact ⟨⟨rfl, rfl, rfl, rfl, rfl, trivial⟩, (Nat.zero_le _), ho113, hos113, ho116, hos116, hsz, hB⟩
              · skip
                rintro i el123 wl123 ⟨hkn, hki, ho113, hos113, ho116, hos116, hsz, hB⟩ ih123
                obtain ⟨e123, rfl⟩ := knows_env hkn
                refine r_seq ?_
                refine r_seq ?_
                refine r_region' ?_
                refine l_q (q_move (v := .int _ _) rfl rfl) ?_
                refine l_q (q_move (v := .slice _ _ _) rfl rfl) ?_
                refine l_q (q_len rfl Try.underlying48 rfl rfl) ?_
                refine l_q (q_lss rfl rfl rfl) ?_
                refine l_nil ?_
                refine r_forget [(11, .int _ _), (12, .int _ _), (14, .slice _ _ _), (16, .slice _ _ _), (18, .int _ _), (97, .bool _)] ⟨rfl, rfl, rfl, rfl, rfl, rfl, trivial⟩ (fun e124 => ?_)
                refine r_cond rfl (fun hc125 => ?_) (fun hc125 => ?_)
                · skip
                  try simp only [decide_eq_true_eq, decide_eq_false_iff_not, Bool.not_eq_true', Bool.not_eq_false', Bool.not_not, Bool.not_true, Bool.not_false, Bool.not_eq_true, Bool.not_eq_false, Int.not_lt, Int.not_le, Bool.and_eq_true, Bool.or_eq_true, Bool.and_eq_false_iff, Bool.or_eq_false_iff] at hc125
                  have hi1 := Int.ofNat_lt.1 hc125
                  have hea := hsA _ (getD_lt (d := sv0) hi1)
                  have hin := hren.mem (show _ ∈ texts c rd (er % 4) (le % 4).toNat by rw [← hMA]; exact List.mem_of_getElem? (sv_at hi1))
                  have hit := isText_iff.1 (mem_texts.1 (show _ ∈ texts c rd (er % 4) (le % 4).toNat by rw [← hMA]; exact List.mem_of_getElem? (sv_at hi1))).2.1
                  refine r_skip ?_
                  refine r_seq ?_
                  refine r_block ?_
                  refine r_seq ?_
                  refine r_region' ?_
                  refine l_q (q_assign (v := .slice _ _ _) rfl rfl) ?_
                  refine l_nil ?_
                  refine r_forget [(11, .int _ _), (12, .int _ _), (14, .slice _ _ _), (16, .slice _ _ _), (18, .int _ _), (19, .slice _ _ _)] ⟨rfl, rfl, rfl, rfl, rfl, rfl, trivial⟩ (fun e126 => ?_)
                  refine r_seq ?_
                  refine r_seq ?_
                  have hlt_ho113 : ∀ g, (Value.slice oa113 ((L113).length) oc113).ownBlock = some g → g < wl123.heap.size := fun g hg => (ho113.lt g hg).2
                  have hlt_hos113 := OwnsI.ltB hos113
                  have hlt_ho116 : ∀ g, (Value.slice oa116 ((L116).length) oc116).ownBlock = some g → g < wl123.heap.size := fun g hg => (ho116.lt g hg).2
                  have hlt_hos116 := OwnsI.ltB hos116
                  have hszx127 : w.heap.size ≤ wl123.heap.size := hsz
                  have hszy : wl123.heap.size ≤ wl123.heap.size := Nat.le_refl _
                  refine r_region' ?_
                  refine l_q (q_assign (v := .int _ _) rfl rfl) ?_
                  refine l_nil ?_
                  refine r_block ?_
                  refine r_rounds (α := Nat × (Option Addr) × Nat) (fun ⟨l, oa, oc⟩ e wl => Knows e [(11, vint (c.length : Int)), (12, vint (k : Int)), (14, .slice oa113 ((L113).length) oc113), (16, .slice oa116 ((L116).length) oc116), (18, vint (i : Int)), (19, .slice oa (((((L113).getD i sv0).xs.take l).map (rotN c.length k)).length) oc), (20, vint (l : Int))] ∧ (l ≤ ((L113).getD i sv0).xs.length) ∧ (wl.ownsRow wl123.heap.size 3 1 (.slice oa (((((L113).getD i sv0).xs.take l).map (rotN c.length k)).length) oc) (((((L113).getD i sv0).xs.take l).map (rotN c.length k)).length) (((((L113).getD i sv0).xs.take l).map (rotN c.length k)).map vint)) ∧ (wl.ownsRow (b1 + 1) 25 1 (.slice oa113 ((L113).length) oc113) ((L113).length) ((L113).map SV.enc)) ∧ (OwnsI wl w112.heap.size 3 L113) ∧ (wl.ownsRow (b1 + 1) 25 1 (.slice oa116 ((L116).length) oc116) ((L116).length) ((L116).map SV.enc)) ∧ (OwnsI wl w115.heap.size 3 L116) ∧ (wl123.heap.size ≤ wl.heap.size) ∧ (w.heap.size ≤ wl.heap.size) ∧ (Below w.heap.size w wl)) (fun ⟨l, oa, oc⟩ => ((L113).getD i sv0).xs.length - l) (0, none, 0) ?_ ?_
                  · skip
                    exact ⟨⟨rfl, rfl, rfl, rfl, rfl, rfl, rfl, trivial⟩, (Nat.zero_le _), (World.ownsRow_nil _ _ _ _), ho113, hos113, ho116, hos116, hszy, hsz, hB⟩
                  · skip
                    rintro ⟨l, oa, oc⟩ el128 wl128 ⟨hkn, hkl, hox, ho113, hos113, ho116, hos116, hszy, hsz, hB⟩ ih128
                    obtain ⟨e128, rfl⟩ := knows_env hkn
                    refine r_seq ?_
                    refine r_seq ?_
                    refine r_region' ?_
                    refine l_q (q_move (v := .int _ _) rfl rfl) ?_
                    refine l_q (q_move (v := .slice _ _ _) rfl rfl) ?_
                    refine l_q (q_move (v := .int _ _) rfl rfl) ?_
                    have hr130 := hos113.rows.get (i := i) (by omega)
                    obtain ⟨b129, o129, ha129, hh129⟩ := (Row.of_owns ho113).at1 i ((L113).getD i sv0) (getD_some (by omega))
                    refine l_q (q_indexAddr1 Try.underlying48 Try.sizeOf25 rfl ha129 rfl (by omega) rfl) ?_
                    refine l_q (q_load Try.isAgg25 rfl (hh129) rfl) ?_
                    refine l_q (q_len rfl Try.underlying25 rfl rfl) ?_
                    refine l_q (q_lss rfl rfl rfl) ?_
                    refine l_nil ?_
                    refine r_forget [(11, .int _ _), (12, .int _ _), (14, .slice _ _ _), (16, .slice _ _ _), (18, .int _ _), (19, .slice _ _ _), (20, .int _ _), (106, .bool _)] ⟨rfl, rfl, rfl, rfl, rfl, rfl, rfl, rfl, trivial⟩ (fun e131 => ?_)
                    refine r_cond rfl (fun hc132 => ?_) (fun hc132 => ?_)
                    · skip
                      try simp only [decide_eq_true_eq, decide_eq_false_iff_not, Bool.not_eq_true', Bool.not_eq_false', Bool.not_not, Bool.not_true, Bool.not_false, Bool.not_eq_true, Bool.not_eq_false, Int.not_lt, Int.not_le, Bool.and_eq_true, Bool.or_eq_true, Bool.and_eq_false_iff, Bool.or_eq_false_iff] at hc132
                      have hll := Int.ofNat_lt.1 hc132
                      have hlr := hit _ (getD_lt (d := 0) hll)
                      refine r_skip ?_
                      refine r_seq ?_
                      refine r_block ?_
                      refine r_region' ?_
                      refine l_q (q_move (v := .slice _ _ _) rfl rfl) ?_
                      refine l_q (q_move (v := .slice _ _ _) rfl rfl) ?_
                      refine l_q (q_move (v := .int _ _) rfl rfl) ?_
                      have hr134 := hos113.rows.get (i := i) (by omega)
                      obtain ⟨b133, o133, ha133, hh133⟩ := (Row.of_owns ho113).at1 i ((L113).getD i sv0) (getD_some (by omega))
                      refine l_q (q_indexAddr1 Try.underlying48 Try.sizeOf25 rfl ha133 rfl (by omega) rfl) ?_
                      refine l_q (q_load Try.isAgg25 rfl (hh133) rfl) ?_
                      refine l_q (q_move (v := .int _ _) rfl rfl) ?_
                      obtain ⟨b135, o135, ha135, hh135⟩ := hr134.at1 l ((((L113).getD i sv0).xs).getD l 0) (getD_some (by omega))
                      refine l_q (q_indexAddr1 Try.underlying25 Try.sizeOf3 rfl ha135 rfl (by omega) rfl) ?_
                      refine l_q (q_load Try.isAgg3 rfl (hh135) rfl) ?_
                      refine l_q (q_move (v := .int _ _) rfl rfl) ?_
                      refine l_q (q_add rfl rfl (by omega) rfl) ?_
                      refine l_q (q_move (v := .int _ _) rfl rfl) ?_
                      refine l_q (q_sub rfl rfl (by omega) rfl) ?_
                      refine l_q (q_move (v := .int _ _) rfl rfl) ?_
                      refine l_q (q_rem rfl rfl (by omega) rfl) ?_
                      have hszz136 := hszy
                      refine l_o (o_buildSlice (el := 3) (cs := [vint (((((((L113).getD i sv0).xs).getD l 0) + (c.length : Int)) - (k : Int)) % (c.length : Int))]) Try.underlying25 el3 (by decide) (by kernel_rfl) rfl (by decide) rfl ?_)
                      intro b137 w137 hzl137 hzr137 _ hb137 hE137 ho137
                      have hbs_b137 : w.heap.size ≤ b137 := Nat.le_trans hsz hzl137
                      replace hB := below_ext hB hE137 hsz
                      replace ho113 := own_ext ho113 hE137
                      replace hos113 := hos113.ext hE137
                      replace ho116 := own_ext ho116 hE137
                      replace hos116 := hos116.ext hE137
                      replace hszy := Nat.le_trans hszy hE137.size
                      replace hox := own_ext hox hE137
                      replace hr130 := hr130.ext hE137
                      replace hr134 := hr134.ext hE137
                      replace hsz := Nat.le_trans hsz hE137.size
                      replace ho137 := own_mono ho137 (show wl123.heap.size ≤ _ by omega)
                      have hszz138 := hszy
                      refine l_o (o_append_map (f := vint) ((((L113).getD i sv0).xs.take l).map (rotN c.length k)) ([((((((L113).getD i sv0).xs).getD l 0) + (c.length : Int)) - (k : Int)) % (c.length : Int)]) Try.underlying25 el3 rfl rfl hox rfl (Row.of_owns ho137) (fun _ => rfl) (by simp only [List.length_map, List.length_take, List.length_cons, List.length_nil]; omega) (by omega) rfl ?_)
                      intro a139 c139 w139 hz139 ho139 hG139
                      replace hB := below_own hB hG139 hox (by omega) hsz
                      replace hsz := Nat.le_trans hsz hG139.size
                      replace ho113 := own_sep ho113 hlt_ho113 hox hG139
                      replace hos113 := OwnsI.sep hos113 hlt_hos113 hox hG139
                      replace ho116 := own_sep ho116 hlt_ho116 hox hG139
                      replace hos116 := OwnsI.sep hos116 hlt_hos116 hox hG139
                      replace hszy := Nat.le_trans hszy hG139.size
                      refine l_q (q_assign (v := .slice _ _ _) rfl rfl) ?_
                      refine l_nil ?_
                      refine r_forget [(11, .int _ _), (12, .int _ _), (14, .slice _ _ _), (16, .slice _ _ _), (18, .int _ _), (19, .slice _ _ _), (20, .int _ _)] ⟨rfl, rfl, rfl, rfl, rfl, rfl, rfl, trivial⟩ (fun e140 => ?_)
                      refine r_inBlock ?_
                      refine r_region' ?_
                      refine l_q (q_move (v := .int _ _) rfl rfl) ?_
                      refine l_q (q_add rfl rfl (by omega) rfl) ?_
                      refine l_q (q_assign (v := .int _ _) rfl rfl) ?_
                      refine l_nil ?_
                      refine r_forget [(11, .int _ _), (12, .int _ _), (14, .slice _ _ _), (16, .slice _ _ _), (18, .int _ _), (19, .slice _ _ _), (20, .int _ _)] ⟨rfl, rfl, rfl, rfl, rfl, rfl, rfl, trivial⟩ (fun e141 => ?_)
                      have hst := rot_step (N := c.length) (k := k) hll
                      exact ih128 (l + 1, a139, c139) _ _ ⟨⟨rfl, rfl, rfl, rfl, rfl, (congrArg (fun z => Value.slice _ (List.length z) _) hst), by first | rfl | exact vint_eq (by omega), trivial⟩, (by omega), (hst ▸ ho139), ho113, hos113, ho116, hos116, hszy, hsz, hB⟩ (by first | omega | (dsimp only; omega))
                    · skip
                      try simp only [decide_eq_true_eq, decide_eq_false_iff_not, Bool.not_eq_true', Bool.not_eq_false', Bool.not_not, Bool.not_true, Bool.not_false, Bool.not_eq_true, Bool.not_eq_false, Int.not_lt, Int.not_le, Bool.and_eq_true, Bool.or_eq_true, Bool.and_eq_false_iff, Bool.or_eq_false_iff] at hc132
                      have hll := Int.ofNat_le.1 hc132
                      refine r_exit rfl ?_
                      refine r_seq ?_
                      refine r_region' ?_
                      refine l_q (q_move (v := .slice _ _ _) rfl rfl) ?_
                      refine l_q (q_move (v := .slice _ _ _) rfl rfl) ?_
                      refine l_o (o_call Try.call42 rfl (lhas_ret _ _ L116 _ _ ((((L113).getD i sv0).xs.take l).map (rotN c.length k)) _ (Row.of_owns ho116) hos116.rows (by omega) htB (Row.of_owns hox) (by rw [List.length_map, List.length_take]; omega)) rfl ?_)
                      rintro _ w142 ⟨rfl, hE142⟩
                      replace hB := below_ext hB hE142 hsz
                      replace ho113 := own_ext ho113 hE142
                      replace hos113 := hos113.ext hE142
                      replace ho116 := own_ext ho116 hE142
                      replace hos116 := hos116.ext hE142
                      replace hszy := Nat.le_trans hszy hE142.size
                      replace hox := own_ext hox hE142
                      replace hr130 := hr130.ext hE142
                      replace hsz := Nat.le_trans hsz hE142.size
                      refine l_q (q_not rfl rfl) ?_
                      refine l_nil ?_
                      refine r_forget [(11, .int _ _), (12, .int _ _), (14, .slice _ _ _), (16, .slice _ _ _), (18, .int _ _), (128, .bool _)] ⟨rfl, rfl, rfl, rfl, rfl, rfl, trivial⟩ (fun e143 => ?_)
                      have hk144 : (!(((L116).map (·.xs)).contains ((((L113).getD i sv0).xs.take l).map (rotN c.length k)))) = false := by rw [List.take_of_length_le hll, show (List.contains _ _) = true from List.contains_iff_mem.2 (by rw [hMB]; exact hin)]; rfl
                      refine r_cond_f ((congrArg Value.bool hk144 : Value.bool _ = _)) ?_
                      refine r_skip ?_
                      refine r_inBlock ?_
                      refine r_region' ?_
                      refine l_q (q_move (v := .int _ _) rfl rfl) ?_
                      refine l_q (q_add rfl rfl (by omega) rfl) ?_
                      refine l_q (q_assign (v := .int _ _) rfl rfl) ?_
                      refine l_nil ?_
                      refine r_forget [(11, .int _ _), (12, .int _ _), (14, .slice _ _ _), (16, .slice _ _ _), (18, .int _ _)] ⟨rfl, rfl, rfl, rfl, rfl, trivial⟩ (fun e145 => ?_)
                      exact ih123 (i + 1) _ _ ⟨⟨rfl, rfl, rfl, rfl, by first | rfl | exact vint_eq (by omega), trivial⟩, (by omega), ho113, hos113, ho116, hos116, hsz, hB⟩ (by first | omega | (dsimp only; omega))
                · skip
                  try simp only [decide_eq_true_eq, decide_eq_false_iff_not, Bool.not_eq_true', Bool.not_eq_false', Bool.not_not, Bool.not_true, Bool.not_false, Bool.not_eq_true, Bool.not_eq_false, Int.not_lt, Int.not_le, Bool.and_eq_true, Bool.or_eq_true, Bool.and_eq_false_iff, Bool.or_eq_false_iff] at hc125
                  refine r_exit rfl ?_
                  refine r_seq ?_
                  refine r_region' ?_
                  refine l_o (o_call Try.call18 rfl (awake_ret _) rfl ?_)
                  rintro _ w146 ⟨rfl, hE146⟩
                  replace hB := below_ext hB hE146 hsz
                  replace ho113 := own_ext ho113 hE146
                  replace hos113 := hos113.ext hE146
                  replace ho116 := own_ext ho116 hE146
                  replace hos116 := hos116.ext hE146
                  replace hsz := Nat.le_trans hsz hE146.size
                  refine l_q (q_assign (v := .bool _) rfl rfl) ?_
                  refine l_nil ?_
                  refine r_forget [(10, .bool _)] ⟨rfl, trivial⟩ (fun e147 => ?_)
                  refine r_ret_ (vs := [.bool _]) rfl Try.func12 rfl (.nil _) ⟨rfl, trivial⟩ ?_
                  exact ⟨rfl, Ext.of_below hB⟩
            · skip
              have hbl_b1 := hb1.lt
              refine m_o3 rfl rfl (o_append_map (f := vstr) ([] ++ ((c).drop k)) ((c).take k) Try.underlying22 el9 rfl rfl ho107 rfl (hr22.below hB) (fun _ => rfl) (by (try simp only [List.length_append, List.length_cons, List.length_nil, List.length_take, List.length_drop, List.length_replicate]); omega) (by omega) rfl ?_)
              intro a148 c148 w148 hz148 ho148 hG148
              refine ⟨(fun hx => hx.step hG148 (own_ne ho107 (by omega))), ?_⟩
              replace hB := below_own hB hG148 ho107 (by omega) hsz
              replace hsz := Nat.le_trans hsz hG148.size
              replace hb1 := hb1.step hG148 (own_ne ho107 (by omega))
              refine m_fork3 ?_ ?_
              · skip
                refine m_o3 rfl rfl (o_alloct Try.zeroValue24 rfl rfl ?_)
                intro b149 w149 hzl149 hzr149 _ hb149 htya hE149
                refine ⟨(fun hx => hx.ext hE149), ?_⟩
                have hne_b1_b149 : b1 ≠ b149 := by have := hb1.lt; omega
                have hbs_b149 : w.heap.size ≤ b149 := Nat.le_trans hsz hzl149
                replace hB := below_ext hB hE149 hsz
                replace hb1 := hb1.ext hE149
                replace ho148 := own_ext ho148 hE149
                replace hsz := Nat.le_trans hsz hE149.size
                refine m_q3 rfl rfl (fun w' hC' => q_build (v := .agg ⟨[.slice a148 ((([] ++ ((c).drop k)) ++ ((c).take k)).length) c148]⟩) (fun w => by kernel_rfl) rfl) ?_
                refine m_last3 rfl rfl rfl (o_store (vs := [.slice a148 ((([] ++ ((c).drop k)) ++ ((c).take k)).length) c148]) (cs' := [.slice a148 ((([] ++ ((c).drop k)) ++ ((c).take k)).length) c148]) Try.sizeOf24 rfl rfl rfl rfl hb149 (Nat.le_of_ble_eq_true rfl) rfl rfl ?_)
                intro w150 hz150 hb149 hG150
                replace hB := below_upd hB hG150 hsz (by omega)
                replace hsz : w.heap.size ≤ w150.heap.size := by rw [hz150]; exact hsz
                replace hb1 := hb1.upd hG150 (by omega)
                replace ho148 := own_ty_upd ho148 htya hG150 (by decide)
                refine m_nil3 ?_
                refine r_forget [(1, .string _), (2, .int _ _), (3, .int _ _), (5, .pointer _), (11, .int _ _), (12, .int _ _), (13, .pointer _)] ⟨rfl, rfl, rfl, rfl, rfl, rfl, rfl, trivial⟩ (fun e151 => ?_)
                refine r_seq ?_
                have hn4 : (le % 4).toNat ≤ 3 := by omega
                have hxf := rot_fault hfc hkc
                have hxl := rotC_len c k
                have hxc : ∀ s ∈ rotC c k, s.length ≤ 2097152 := fun s hs => (List.mem_append.1 hs).elim (fun h => hcl s (List.mem_of_mem_drop h)) (fun h => hcl s (List.mem_of_mem_take h))
                have hren := rot_ren hkc
                refine r_region' ?_
                refine l_q (q_load_agg (n := 1) Try.isAgg24 Try.sizeOf24 rfl ((hb1.cells' (cs' := [_]) 0 1 rfl)) rfl rfl) ?_
                refine l_o (o_call Try.call20 rfl (code_ret _ _ c _ (hrow.below hB) (by omega)) rfl ?_)
                rintro _ w152 ⟨ca152, cc152, rfl, hrc152, hE152⟩
                replace hB := below_ext hB hE152 hsz
                replace hb1 := hb1.ext hE152
                replace ho148 := own_ext ho148 hE152
                replace hb149 := hb149.ext hE152
                replace hsz := Nat.le_trans hsz hE152.size
                refine l_q (q_move (v := .string _) rfl rfl) ?_
                refine l_q (q_move (v := .int _ _) rfl rfl) ?_
                refine l_q (q_toInt Try.underlying5 Try.underlying3 rfl (by omega) rfl) ?_
                refine l_q (q_rem rfl rfl (by omega) rfl) ?_
                refine l_q (q_move (v := .int _ _) rfl rfl) ?_
                refine l_q (q_toInt Try.underlying5 Try.underlying3 rfl (by omega) rfl) ?_
                refine l_q (q_rem rfl rfl (by omega) rfl) ?_
                refine l_o (o_call Try.call32 rfl (texts2_ret _ _ (c) rd (er % 4) (le % 4) _ hrc152 (by omega) hcl (by omega)) rfl ?_)
                have hszp153 : w.heap.size ≤ w152.heap.size := hsz
                have hbl_b1 := hb1.lt
                have hbl_b149 := hb149.lt
                rintro _ w153 ⟨oa153, oc153, L153, rfl, ho153, hos153, hm153, hE153⟩
                replace ho153 := own_mono ho153 (show b1 + 1 ≤ _ by omega)
                replace hB := below_ext hB hE153 hsz
                replace hb1 := hb1.ext hE153
                replace ho148 := own_ext ho148 hE153
                replace hb149 := hb149.ext hE153
                replace hrc152 := hrc152.ext hE153
                replace hsz := Nat.le_trans hsz hE153.size
                have hEA : txErr (c) rd (er % 4) (le % 4) = 0 := txErr_zero hfc hck (by omega)
                have hMA := (hm153).trans (txL_spec hEA)
                obtain ⟨hlA, hsA, htA⟩ := texts_sv hMA (by omega) (by omega)
                refine l_q (q_move (v := .tuple _) rfl rfl) ?_
                refine l_q (q_extract (vs := [_, _]) (v := .slice _ _ _) rfl rfl rfl) ?_
                refine l_q (q_extract (vs := [_, _]) (v := .int _ _) rfl rfl rfl) ?_
                refine l_q (q_assign (v := .slice _ _ _) rfl rfl) ?_
                refine l_q (q_assign (v := .int _ _) rfl rfl) ?_
                refine l_nil ?_
                refine r_forget [(1, .string _), (2, .int _ _), (3, .int _ _), (11, .int _ _), (12, .int _ _), (13, .pointer _), (14, .slice _ _ _), (15, .int _ _)] ⟨rfl, rfl, rfl, rfl, rfl, rfl, rfl, rfl, trivial⟩ (fun e154 => ?_)
                refine r_seq ?_
                refine r_region' ?_
                refine l_q (q_load_agg (n := 1) Try.isAgg24 Try.sizeOf24 rfl ((hb149.cells' (cs' := [_]) 0 1 rfl)) rfl rfl) ?_
                refine l_o (o_call Try.call20 rfl (code_ret _ _ (rotC c k) _ (Row.of_owns ho148) (by rw [hxl]; omega)) rfl ?_)
                rintro _ w155 ⟨ca155, cc155, rfl, hrc155, hE155⟩
                replace hB := below_ext hB hE155 hsz
                replace hb1 := hb1.ext hE155
                replace ho148 := own_ext ho148 hE155
                replace hb149 := hb149.ext hE155
                replace hrc152 := hrc152.ext hE155
                replace ho153 := own_ext ho153 hE155
                replace hos153 := hos153.ext hE155
                replace hsz := Nat.le_trans hsz hE155.size
                refine l_q (q_move (v := .string _) rfl rfl) ?_
                refine l_q (q_move (v := .int _ _) rfl rfl) ?_
                refine l_q (q_toInt Try.underlying5 Try.underlying3 rfl (by omega) rfl) ?_
                refine l_q (q_rem rfl rfl (by omega) rfl) ?_
                refine l_q (q_move (v := .int _ _) rfl rfl) ?_
                refine l_q (q_toInt Try.underlying5 Try.underlying3 rfl (by omega) rfl) ?_
                refine l_q (q_rem rfl rfl (by omega) rfl) ?_
                refine l_o (o_call Try.call32 rfl (texts2_ret _ _ (rotC c k) rd (er % 4) (le % 4) _ hrc155 (by rw [hxl]; omega) hxc (by omega)) rfl ?_)
                have hszp156 : w.heap.size ≤ w155.heap.size := hsz
                have hbl_b1 := hb1.lt
                have hbl_b149 := hb149.lt
                rintro _ w156 ⟨oa156, oc156, L156, rfl, ho156, hos156, hm156, hE156⟩
                replace ho156 := own_mono ho156 (show b1 + 1 ≤ _ by omega)
                replace hB := below_ext hB hE156 hsz
                replace hb1 := hb1.ext hE156
                replace ho148 := own_ext ho148 hE156
                replace hb149 := hb149.ext hE156
                replace hrc152 := hrc152.ext hE156
                replace ho153 := own_ext ho153 hE156
                replace hos153 := hos153.ext hE156
                replace hrc155 := hrc155.ext hE156
                replace hsz := Nat.le_trans hsz hE156.size
                have hEB : txErr (rotC c k) rd (er % 4) (le % 4) = 0 := txErr_zero hxf hck (by omega)
                have hMB := (hm156).trans (txL_spec hEB)
                obtain ⟨hlB, hsB, htB⟩ := texts_sv hMB (by rw [hxl]; omega) (by omega)
                refine l_q (q_move (v := .tuple _) rfl rfl) ?_
                refine l_q (q_extract (vs := [_, _]) (v := .slice _ _ _) rfl rfl rfl) ?_
                refine l_q (q_extract (vs := [_, _]) (v := .int _ _) rfl rfl rfl) ?_
                refine l_q (q_assign (v := .slice _ _ _) rfl rfl) ?_
                refine l_q (q_assign (v := .int _ _) rfl rfl) ?_
                refine l_nil ?_
                refine r_forget [(11, .int _ _), (12, .int _ _), (14, .slice _ _ _), (15, .int _ _), (16, .slice _ _ _), (17, .int _ _)] ⟨rfl, rfl, rfl, rfl, rfl, rfl, trivial⟩ (fun e157 => ?_)
                refine r_seq ?_
                refine r_seq ?_
                have hlen : (L153).length = (L156).length := by have h1 := congrArg List.length hMA; have h2 := congrArg List.length hMB; rw [List.length_map] at h1 h2; rw [h1, h2, rot_texts_len hkc]
                refine r_region' ?_
                refine l_q (q_move (v := .int _ _) rfl rfl) ?_
                refine l_q (q_neq rfl rfl rfl) ?_
                refine l_q (q_move (v := .bool _) rfl rfl) ?_
                have hk158 : (!decide ((txErr (c) rd (er % 4) (le % 4)) = 0)) = false := by rw [hEA]; rfl
                refine l_part 83 rfl (fun hx => absurd (hk158.symm.trans hx) (by decide)) (fun _ => ?_)
                refine l_q (q_move (v := .int _ _) rfl rfl) ?_
                refine l_q (q_neq rfl rfl rfl) ?_
                refine l_q (q_pick_f (v := .bool _) rfl rfl rfl) ?_
                refine l_q (q_move (v := .bool _) rfl rfl) ?_
                have hk159 : (!decide ((txErr (rotC c k) rd (er % 4) (le % 4)) = 0)) = false := by rw [hEB]; rfl
                refine l_part 87 rfl (fun hx => absurd (hk159.symm.trans hx) (by decide)) (fun _ => ?_)
                refine l_q (q_move (v := .slice _ _ _) rfl rfl) ?_
                refine l_q (q_len rfl Try.underlying48 rfl rfl) ?_
                refine l_q (q_move (v := .slice _ _ _) rfl rfl) ?_
                refine l_q (q_len rfl Try.underlying48 rfl rfl) ?_
                refine l_q (q_neq rfl rfl rfl) ?_
                refine l_q (q_pick_f (v := .bool _) rfl rfl rfl) ?_
                refine l_nil ?_
                refine r_forget [(11, .int _ _), (12, .int _ _), (14, .slice _ _ _), (16, .slice _ _ _), (93, .bool _)] ⟨rfl, rfl, rfl, rfl, rfl, trivial⟩ (fun e160 => ?_)
                have hk161 : (!decide (((L153).length : Int) = ((L156).length : Int))) = false := by rw [hlen]; simp
                refine r_cond_f ((congrArg Value.bool hk161 : Value.bool _ = _)) ?_
                refine r_skip ?_
                refine r_seq ?_
                refine r_seq ?_
                refine r_region' ?_
                refine l_q (q_assign (v := .int _ _) rfl rfl) ?_
                refine l_nil ?_
                refine r_forget [(11, .int _ _), (12, .int _ _), (14, .slice _ _ _), (16, .slice _ _ _), (18, .int _ _)] ⟨rfl, rfl, rfl, rfl, rfl, trivial⟩ (fun e162 => ?_)
                refine r_block ?_
                refine r_rounds (α := Nat) (fun i e wl => Knows e [(11, vint (c.length : Int)), (12, vint (k : Int)), (14, .slice oa153 ((L153).length) oc153), (16, .slice oa156 ((L156).length) oc156), (18, vint (i : Int))] ∧ (i ≤ (L153).length) ∧ (wl.ownsRow (b1 + 1) 25 1 (.slice oa153 ((L153).length) oc153) ((L153).length) ((L153).map SV.enc)) ∧ (OwnsI wl w152.heap.size 3 L153) ∧ (wl.ownsRow (b1 + 1) 25 1 (.slice oa156 ((L156).length) oc156) ((L156).length) ((L156).map SV.enc)) ∧ (OwnsI wl w155.heap.size 3 L156) ∧ (w.heap.size ≤ wl.heap.size) ∧ (Below w.heap.size w wl)) (fun i => (L153).length - i) 0 ?_ ?_
                · skip
                  exact ⟨⟨rfl, rfl, rfl, rfl, rfl, trivial⟩, (Nat.zero_le _), ho153, hos153, ho156, hos156, hsz, hB⟩
                · skip
                  rintro i el163 wl163 ⟨hkn, hki, ho153, hos153, ho156, hos156, hsz, hB⟩ ih163
                  obtain ⟨e163, rfl⟩ := knows_env hkn
                  refine r_seq ?_
                  refine r_seq ?_
                  refine r_region' ?_
                  refine l_q (q_move (v := .int _ _) rfl rfl) ?_
                  refine l_q (q_move (v := .slice _ _ _) rfl rfl) ?_
                  refine l_q (q_len rfl Try.underlying48 rfl rfl) ?_
                  refine l_q (q_lss rfl rfl rfl) ?_
                  refine l_nil ?_
                  refine r_forget [(11, .int _ _), (12, .int _ _), (14, .slice _ _ _), (16, .slice _ _ _), (18, .int _ _), (97, .bool _)] ⟨rfl, rfl, rfl, rfl, rfl, rfl, trivial⟩ (fun e164 => ?_)
                  refine r_cond rfl (fun hc165 => ?_) (fun hc165 => ?_)
                  · skip
                    try simp only [decide_eq_true_eq, decide_eq_false_iff_not, Bool.not_eq_true', Bool.not_eq_false', Bool.not_not, Bool.not_true, Bool.not_false, Bool.not_eq_true, Bool.not_eq_false, Int.not_lt, Int.not_le, Bool.and_eq_true, Bool.or_eq_true, Bool.and_eq_false_iff, Bool.or_eq_false_iff] at hc165
                    have hi1 := Int.ofNat_lt.1 hc165
                    have hea := hsA _ (getD_lt (d := sv0) hi1)
                    have hin := hren.mem (show _ ∈ texts c rd (er % 4) (le % 4).toNat by rw [← hMA]; exact List.mem_of_getElem? (sv_at hi1))
                    have hit := isText_iff.1 (mem_texts.1 (show _ ∈ texts c rd (er % 4) (le % 4).toNat by rw [← hMA]; exact List.mem_of_getElem? (sv_at hi1))).2.1
                    refine r_skip ?_
                    refine r_seq ?_
                    refine r_block ?_
                    refine r_seq ?_
                    refine r_region' ?_
                    refine l_q (q_assign (v := .slice _ _ _) rfl rfl) ?_
                    refine l_nil ?_
                    refine r_forget [(11, .int _ _), (12, .int _ _), (14, .slice _ _ _), (16, .slice _ _ _), (18, .int _ _), (19, .slice _ _ _)] ⟨rfl, rfl, rfl, rfl, rfl, rfl, trivial⟩ (fun e166 => ?_)
                    refine r_seq ?_
                    refine r_seq ?_
                    have hlt_ho153 : ∀ g, (Value.slice oa153 ((L153).length) oc153).ownBlock = some g → g < wl163.heap.size := fun g hg => (ho153.lt g hg).2
                    have hlt_hos153 := OwnsI.ltB hos153
                    have hlt_ho156 : ∀ g, (Value.slice oa156 ((L156).length) oc156).ownBlock = some g → g < wl163.heap.size := fun g hg => (ho156.lt g hg).2
                    have hlt_hos156 := OwnsI.ltB hos156
                    have hszx167 : w.heap.size ≤ wl163.heap.size := hsz
                    have hszy : wl163.heap.size ≤ wl163.heap.size := Nat.le_refl _
                    refine r_region' ?_
                    refine l_q (q_assign (v := .int _ _) rfl rfl) ?_
                    refine l_nil ?_
                    refine r_block ?_
                    refine r_rounds (α := Nat × (Option Addr) × Nat) (fun ⟨l, oa, oc⟩ e wl => Knows e [(11, vint (c.length : Int)), (12, vint (k : Int)), (14, .slice oa153 ((L153).length) oc153), (16, .slice oa156 ((L156).length) oc156), (18, vint (i : Int)), (19, .slice oa (((((L153).getD i sv0).xs.take l).map (rotN c.length k)).length) oc), (20, vint (l : Int))] ∧ (l ≤ ((L153).getD i sv0).xs.length) ∧ (wl.ownsRow wl163.heap.size 3 1 (.slice oa (((((L153).getD i sv0).xs.take l).map (rotN c.length k)).length) oc) (((((L153).getD i sv0).xs.take l).map (rotN c.length k)).length) (((((L153).getD i sv0).xs.take l).map (rotN c.length k)).map vint)) ∧ (wl.ownsRow (b1 + 1) 25 1 (.slice oa153 ((L153).length) oc153) ((L153).length) ((L153).map SV.enc)) ∧ (OwnsI wl w152.heap.size 3 L153) ∧ (wl.ownsRow (b1 + 1) 25 1 (.slice oa156 ((L156).length) oc156) ((L156).length) ((L156).map SV.enc)) ∧ (OwnsI wl w155.heap.size 3 L156) ∧ (wl163.heap.size ≤ wl.heap.size) ∧ (w.heap.size ≤ wl.heap.size) ∧ (Below w.heap.size w wl)) (fun ⟨l, oa, oc⟩ => ((L153).getD i sv0).xs.length - l) (0, none, 0) ?_ ?_
                    · skip
                      exact ⟨⟨rfl, rfl, rfl, rfl, rfl, rfl, rfl, trivial⟩, (Nat.zero_le _), (World.ownsRow_nil _ _ _ _), ho153, hos153, ho156, hos156, hszy, hsz, hB⟩
                    · skip
                      rintro ⟨l, oa, oc⟩ el168 wl168 ⟨hkn, hkl, hox, ho153, hos153, ho156, hos156, hszy, hsz, hB⟩ ih168
                      obtain ⟨e168, rfl⟩ := knows_env hkn
                      refine r_seq ?_
                      refine r_seq ?_
                      refine r_region' ?_
                      refine l_q (q_move (v := .int _ _) rfl rfl) ?_
                      refine l_q (q_move (v := .slice _ _ _) rfl rfl) ?_
                      refine l_q (q_move (v := .int _ _) rfl rfl) ?_
                      have hr170 := hos153.rows.get (i := i) (by omega)
                      obtain ⟨b169, o169, ha169, hh169⟩ := (Row.of_owns ho153).at1 i ((L153).getD i sv0) (getD_some (by omega))
                      refine l_q (q_indexAddr1 Try.underlying48 Try.sizeOf25 rfl ha169 rfl (by omega) rfl) ?_
                      refine l_q (q_load Try.isAgg25 rfl (hh169) rfl) ?_
                      refine l_q (q_len rfl Try.underlying25 rfl rfl) ?_
                      refine l_q (q_lss rfl rfl rfl) ?_
                      refine l_nil ?_
                      refine r_forget [(11, .int _ _), (12, .int _ _), (14, .slice _ _ _), (16, .slice _ _ _), (18, .int _ _), (19, .slice _ _ _), (20, .int _ _), (106, .bool _)] ⟨rfl, rfl, rfl, rfl, rfl, rfl, rfl, rfl, trivial⟩ (fun e171 => ?_)
                      refine r_cond rfl (fun hc172 => ?_) (fun hc172 => ?_)
                      · skip
                        try simp only [decide_eq_true_eq, decide_eq_false_iff_not, Bool.not_eq_true', Bool.not_eq_false', Bool.not_not, Bool.not_true, Bool.not_false, Bool.not_eq_true, Bool.not_eq_false, Int.not_lt, Int.not_le, Bool.and_eq_true, Bool.or_eq_true, Bool.and_eq_false_iff, Bool.or_eq_false_iff] at hc172
                        have hll := Int.ofNat_lt.1 hc172
                        have hlr := hit _ (getD_lt (d := 0) hll)
                        refine r_skip ?_
                        refine r_seq ?_
                        refine r_block ?_
                        refine r_region' ?_
                        refine l_q (q_move (v := .slice _ _ _) rfl rfl) ?_
                        refine l_q (q_move (v := .slice _ _ _) rfl rfl) ?_
                        refine l_q (q_move (v := .int _ _) rfl rfl) ?_
                        have hr174 := hos153.rows.get (i := i) (by omega)
                        obtain ⟨b173, o173, ha173, hh173⟩ := (Row.of_owns ho153).at1 i ((L153).getD i sv0) (getD_some (by omega))
                        refine l_q (q_indexAddr1 Try.underlying48 Try.sizeOf25 rfl ha173 rfl (by omega) rfl) ?_
                        refine l_q (q_load Try.isAgg25 rfl (hh173) rfl) ?_
                        refine l_q (q_move (v := .int _ _) rfl rfl) ?_
                        obtain ⟨b175, o175, ha175, hh175⟩ := hr174.at1 l ((((L153).getD i sv0).xs).getD l 0) (getD_some (by omega))
                        refine l_q (q_indexAddr1 Try.underlying25 Try.sizeOf3 rfl ha175 rfl (by omega) rfl) ?_
                        refine l_q (q_load Try.isAgg3 rfl (hh175) rfl) ?_
                        refine l_q (q_move (v := .int _ _) rfl rfl) ?_
                        refine l_q (q_add rfl rfl (by omega) rfl) ?_
                        refine l_q (q_move (v := .int _ _) rfl rfl) ?_
                        refine l_q (q_sub rfl rfl (by omega) rfl) ?_
                        refine l_q (q_move (v := .int _ _) rfl rfl) ?_
                        refine l_q (q_rem rfl rfl (by omega) rfl) ?_
                        have hszz176 := hszy
                        refine l_o (o_buildSlice (el := 3) (cs := [vint (((((((L153).getD i sv0).xs).getD l 0) + (c.length : Int)) - (k : Int)) % (c.length : Int))]) Try.underlying25 el3 (by decide) (by kernel_rfl) rfl (by decide) rfl ?_)
                        intro b177 w177 hzl177 hzr177 _ hb177 hE177 ho177
                        have hbs_b177 : w.heap.size ≤ b177 := Nat.le_trans hsz hzl177
                        replace hB := below_ext hB hE177 hsz
                        replace ho153 := own_ext ho153 hE177
                        replace hos153 := hos153.ext hE177
                        replace ho156 := own_ext ho156 hE177
                        replace hos156 := hos156.ext hE177
                        replace hszy := Nat.le_trans hszy hE177.size
                        replace hox := own_ext hox hE177
                        replace hr170 := hr170.ext hE177
                        replace hr174 := hr174.ext hE177
                        replace hsz := Nat.le_trans hsz hE177.size
                        replace ho177 := own_mono ho177 (show wl163.heap.size ≤ _ by omega)
                        have hszz178 := hszy
                        refine l_o (o_append_map (f := vint) ((((L153).getD i sv0).xs.take l).map (rotN c.length k)) ([((((((L153).getD i sv0).xs).getD l 0) + (c.length : Int)) - (k : Int)) % (c.length : Int)]) Try.underlying25 el3 rfl rfl hox rfl (Row.of_owns ho177) (fun _ => rfl) (by simp only [List.length_map, List.length_take, List.length_cons, List.length_nil]; omega) (by omega) rfl ?_)
                        intro a179 c179 w179 hz179 ho179 hG179
                        replace hB := below_own hB hG179 hox (by omega) hsz
                        replace hsz := Nat.le_trans hsz hG179.size
                        replace ho153 := own_sep ho153 hlt_ho153 hox hG179
                        replace hos153 := OwnsI.sep hos153 hlt_hos153 hox hG179
                        replace ho156 := own_sep ho156 hlt_ho156 hox hG179
                        replace hos156 := OwnsI.sep hos156 hlt_hos156 hox hG179
                        replace hszy := Nat.le_trans hszy hG179.size
                        refine l_q (q_assign (v := .slice _ _ _) rfl rfl) ?_
                        refine l_nil ?_
                        refine r_forget [(11, .int _ _), (12, .int _ _), (14, .slice _ _ _), (16, .slice _ _ _), (18, .int _ _), (19, .slice _ _ _), (20, .int _ _)] ⟨rfl, rfl, rfl, rfl, rfl, rfl, rfl, trivial⟩ (fun e180 => ?_)
                        refine r_inBlock ?_
                        refine r_region' ?_
                        refine l_q (q_move (v := .int _ _) rfl rfl) ?_
                        refine l_q (q_add rfl rfl (by omega) rfl) ?_
                        refine l_q (q_assign (v := .int _ _) rfl rfl) ?_
                        refine l_nil ?_
                        refine r_forget [(11, .int _ _), (12, .int _ _), (14, .slice _ _ _), (16, .slice _ _ _), (18, .int _ _), (19, .slice _ _ _), (20, .int _ _)] ⟨rfl, rfl, rfl, rfl, rfl, rfl, rfl, trivial⟩ (fun e181 => ?_)
                        have hst := rot_step (N := c.length) (k := k) hll
                        exact ih168 (l + 1, a179, c179) _ _ ⟨⟨rfl, rfl, rfl, rfl, rfl, (congrArg (fun z => Value.slice _ (List.length z) _) hst), by first | rfl | exact vint_eq (by omega), trivial⟩, (by omega), (hst ▸ ho179), ho153, hos153, ho156, hos156, hszy, hsz, hB⟩ (by first | omega | (dsimp only; omega))
                      · skip
                        try simp only [decide_eq_true_eq, decide_eq_false_iff_not, Bool.not_eq_true', Bool.not_eq_false', Bool.not_not, Bool.not_true, Bool.not_false, Bool.not_eq_true, Bool.not_eq_false, Int.not_lt, Int.not_le, Bool.and_eq_true, Bool.or_eq_true, Bool.and_eq_false_iff, Bool.or_eq_false_iff] at hc172
                        have hll := Int.ofNat_le.1 hc172
                        refine r_exit rfl ?_
                        refine r_seq ?_
                        refine r_region' ?_
                        refine l_q (q_move (v := .slice _ _ _) rfl rfl) ?_
                        refine l_q (q_move (v := .slice _ _ _) rfl rfl) ?_
                        refine l_o (o_call Try.call42 rfl (lhas_ret _ _ L156 _ _ ((((L153).getD i sv0).xs.take l).map (rotN c.length k)) _ (Row.of_owns ho156) hos156.rows (by omega) htB (Row.of_owns hox) (by rw [List.length_map, List.length_take]; omega)) rfl ?_)
                        rintro _ w182 ⟨rfl, hE182⟩
                        replace hB := below_ext hB hE182 hsz
                        replace ho153 := own_ext ho153 hE182
                        replace hos153 := hos153.ext hE182
                        replace ho156 := own_ext ho156 hE182
                        replace hos156 := hos156.ext hE182
                        replace hszy := Nat.le_trans hszy hE182.size
                        replace hox := own_ext hox hE182
                        replace hr170 := hr170.ext hE182
                        replace hsz := Nat.le_trans hsz hE182.size
                        refine l_q (q_not rfl rfl) ?_
                        refine l_nil ?_
                        refine r_forget [(11, .int _ _), (12, .int _ _), (14, .slice _ _ _), (16, .slice _ _ _), (18, .int _ _), (128, .bool _)] ⟨rfl, rfl, rfl, rfl, rfl, rfl, trivial⟩ (fun e183 => ?_)
                        have hk184 : (!(((L156).map (·.xs)).contains ((((L153).getD i sv0).xs.take l).map (rotN c.length k)))) = false := by rw [List.take_of_length_le hll, show (List.contains _ _) = true from List.contains_iff_mem.2 (by rw [hMB]; exact hin)]; rfl
                        refine r_cond_f ((congrArg Value.bool hk184 : Value.bool _ = _)) ?_
                        refine r_skip ?_
                        refine r_inBlock ?_
                        refine r_region' ?_
                        refine l_q (q_move (v := .int _ _) rfl rfl) ?_
                        refine l_q (q_add rfl rfl (by omega) rfl) ?_
                        refine l_q (q_assign (v := .int _ _) rfl rfl) ?_
                        refine l_nil ?_
                        refine r_forget [(11, .int _ _), (12, .int _ _), (14, .slice _ _ _), (16, .slice _ _ _), (18, .int _ _)] ⟨rfl, rfl, rfl, rfl, rfl, trivial⟩ (fun e185 => ?_)
                        exact ih163 (i + 1) _ _ ⟨⟨rfl, rfl, rfl, rfl, by first | rfl | exact vint_eq (by omega), trivial⟩, (by omega), ho153, hos153, ho156, hos156, hsz, hB⟩ (by first | omega | (dsimp only; omega))
                  · skip
                    try simp only [decide_eq_true_eq, decide_eq_false_iff_not, Bool.not_eq_true', Bool.not_eq_false', Bool.not_not, Bool.not_true, Bool.not_false, Bool.not_eq_true, Bool.not_eq_false, Int.not_lt, Int.not_le, Bool.and_eq_true, Bool.or_eq_true, Bool.and_eq_false_iff, Bool.or_eq_false_iff] at hc165
                    refine r_exit rfl ?_
                    refine r_seq ?_
                    refine r_region' ?_
                    refine l_o (o_call Try.call18 rfl (awake_ret _) rfl ?_)
                    rintro _ w186 ⟨rfl, hE186⟩
                    replace hB := below_ext hB hE186 hsz
                    replace ho153 := own_ext ho153 hE186
                    replace hos153 := hos153.ext hE186
                    replace ho156 := own_ext ho156 hE186
                    replace hos156 := hos156.ext hE186
                    replace hsz := Nat.le_trans hsz hE186.size
                    refine l_q (q_assign (v := .bool _) rfl rfl) ?_
                    refine l_nil ?_
                    refine r_forget [(10, .bool _)] ⟨rfl, trivial⟩ (fun e187 => ?_)
                    refine r_ret_ (vs := [.bool _]) rfl Try.func12 rfl (.nil _) ⟨rfl, trivial⟩ ?_
                    exact ⟨rfl, Ext.of_below hB⟩
              · skip
                refine m_q3 rfl rfl (fun w' hC' => q_build (v := .agg ⟨[.slice a148 ((([] ++ ((c).drop k)) ++ ((c).take k)).length) c148]⟩) (fun w => by kernel_rfl) rfl) ?_
                refine m_o3 rfl rfl (o_alloct Try.zeroValue24 rfl rfl ?_)
                intro b188 w188 hzl188 hzr188 _ hb188 htya hE188
                refine ⟨(fun hx => hx.ext hE188), ?_⟩
                have hne_b1_b188 : b1 ≠ b188 := by have := hb1.lt; omega
                have hbs_b188 : w.heap.size ≤ b188 := Nat.le_trans hsz hzl188
                replace hB := below_ext hB hE188 hsz
                replace hb1 := hb1.ext hE188
                replace ho148 := own_ext ho148 hE188
                replace hsz := Nat.le_trans hsz hE188.size
                refine m_last3 rfl rfl rfl (o_store (vs := [.slice a148 ((([] ++ ((c).drop k)) ++ ((c).take k)).length) c148]) (cs' := [.slice a148 ((([] ++ ((c).drop k)) ++ ((c).take k)).length) c148]) Try.sizeOf24 rfl rfl rfl rfl hb188 (Nat.le_of_ble_eq_true rfl) rfl rfl ?_)
                intro w189 hz189 hb188 hG189
                replace hB := below_upd hB hG189 hsz (by omega)
                replace hsz : w.heap.size ≤ w189.heap.size := by rw [hz189]; exact hsz
                replace hb1 := hb1.upd hG189 (by omega)
                replace ho148 := own_ty_upd ho148 htya hG189 (by decide)
                refine m_nil3 ?_
                refine r_forget [(1, .string _), (2, .int _ _), (3, .int _ _), (5, .pointer _), (11, .int _ _), (12, .int _ _), (13, .pointer _)] ⟨rfl, rfl, rfl, rfl, rfl, rfl, rfl, trivial⟩ (fun e190 => ?_)
                refine r_seq ?_
                have hn4 : (le % 4).toNat ≤ 3 := by omega
                have hxf := rot_fault hfc hkc
                have hxl := rotC_len c k
                have hxc : ∀ s ∈ rotC c k, s.length ≤ 2097152 := fun s hs => (List.mem_append.1 hs).elim (fun h => hcl s (List.mem_of_mem_drop h)) (fun h => hcl s (List.mem_of_mem_take h))
                have hren := rot_ren hkc
                refine r_region' ?_
                refine l_q (q_load_agg (n := 1) Try.isAgg24 Try.sizeOf24 rfl ((hb1.cells' (cs' := [_]) 0 1 rfl)) rfl rfl) ?_
                refine l_o (o_call Try.call20 rfl (code_ret _ _ c _ (hrow.below hB) (by omega)) rfl ?_)
                rintro _ w191 ⟨ca191, cc191, rfl, hrc191, hE191⟩
                replace hB := below_ext hB hE191 hsz
                replace hb1 := hb1.ext hE191
                replace ho148 := own_ext ho148 hE191
                replace hb188 := hb188.ext hE191
                replace hsz := Nat.le_trans hsz hE191.size
                refine l_q (q_move (v := .string _) rfl rfl) ?_
                refine l_q (q_move (v := .int _ _) rfl rfl) ?_
                refine l_q (q_toInt Try.underlying5 Try.underlying3 rfl (by omega) rfl) ?_
                refine l_q (q_rem rfl rfl (by omega) rfl) ?_
                refine l_q (q_move (v := .int _ _) rfl rfl) ?_
                refine l_q (q_toInt Try.underlying5 Try.underlying3 rfl (by omega) rfl) ?_
                refine l_q (q_rem rfl rfl (by omega) rfl) ?_
                refine l_o (o_call Try.call32 rfl (texts2_ret _ _ (c) rd (er % 4) (le % 4) _ hrc191 (by omega) hcl (by omega)) rfl ?_)
                have hszp192 : w.heap.size ≤ w191.heap.size := hsz
                have hbl_b1 := hb1.lt
                have hbl_b188 := hb188.lt
                rintro _ w192 ⟨oa192, oc192, L192, rfl, ho192, hos192, hm192, hE192⟩
                replace ho192 := own_mono ho192 (show b1 + 1 ≤ _ by omega)
                replace hB := below_ext hB hE192 hsz
                replace hb1 := hb1.ext hE192
                replace ho148 := own_ext ho148 hE192
                replace hb188 := hb188.ext hE192
                replace hrc191 := hrc191.ext hE192
                replace hsz := Nat.le_trans hsz hE192.size
                have hEA : txErr (c) rd (er % 4) (le % 4) = 0 := txErr_zero hfc hck (by omega)
                have hMA := (hm192).trans (txL_spec hEA)
                obtain ⟨hlA, hsA, htA⟩ := texts_sv hMA (by omega) (by omega)
                refine l_q (q_move (v := .tuple _) rfl rfl) ?_
                refine l_q (q_extract (vs := [_, _]) (v := .slice _ _ _) rfl rfl rfl) ?_
                refine l_q (q_extract (vs := [_, _]) (v := .int _ _) rfl rfl rfl) ?_
                refine l_q (q_assign (v := .slice _ _ _) rfl rfl) ?_
                refine l_q (q_assign (v := .int _ _) rfl rfl) ?_
                refine l_nil ?_
                refine r_forget [(1, .string _), (2, .int _ _), (3, .int _ _), (11, .int _ _), (12, .int _ _), (13, .pointer _), (14, .slice _ _ _), (15, .int _ _)] ⟨rfl, rfl, rfl, rfl, rfl, rfl, rfl, rfl, trivial⟩ (fun e193 => ?_)
                refine r_seq ?_
                refine r_region' ?_
                refine l_q (q_load_agg (n := 1) Try.isAgg24 Try.sizeOf24 rfl ((hb188.cells' (cs' := [_]) 0 1 rfl)) rfl rfl) ?_
                refine l_o (o_call Try.call20 rfl (code_ret _ _ (rotC c k) _ (Row.of_owns ho148) (by rw [hxl]; omega)) rfl ?_)
                rintro _ w194 ⟨ca194, cc194, rfl, hrc194, hE194⟩
                replace hB := below_ext hB hE194 hsz
                replace hb1 := hb1.ext hE194
                replace ho148 := own_ext ho148 hE194
                replace hb188 := hb188.ext hE194
                replace hrc191 := hrc191.ext hE194
                replace ho192 := own_ext ho192 hE194
                replace hos192 := hos192.ext hE194
                replace hsz := Nat.le_trans hsz hE194.size
                refine l_q (q_move (v := .string _) rfl rfl) ?_
                refine l_q (q_move (v := .int _ _) rfl rfl) ?_
                refine l_q (q_toInt Try.underlying5 Try.underlying3 rfl (by omega) rfl) ?_
                refine l_q (q_rem rfl rfl (by omega) rfl) ?_
                refine l_q (q_move (v := .int _ _) rfl rfl) ?_
                refine l_q (q_toInt Try.underlying5 Try.underlying3 rfl (by omega) rfl) ?_
                refine l_q (q_rem rfl rfl (by omega) rfl) ?_
                refine l_o (o_call Try.call32 rfl (texts2_ret _ _ (rotC c k) rd (er % 4) (le % 4) _ hrc194 (by rw [hxl]; omega) hxc (by omega)) rfl ?_)
                have hszp195 : w.heap.size ≤ w194.heap.size := hsz
                have hbl_b1 := hb1.lt
                have hbl_b188 := hb188.lt
                rintro _ w195 ⟨oa195, oc195, L195, rfl, ho195, hos195, hm195, hE195⟩
                replace ho195 := own_mono ho195 (show b1 + 1 ≤ _ by omega)
                replace hB := below_ext hB hE195 hsz
                replace hb1 := hb1.ext hE195
                replace ho148 := own_ext ho148 hE195
                replace hb188 := hb188.ext hE195
                replace hrc191 := hrc191.ext hE195
                replace ho192 := own_ext ho192 hE195
                replace hos192 := hos192.ext hE195
                replace hrc194 := hrc194.ext hE195
                replace hsz := Nat.le_trans hsz hE195.size
                have hEB : txErr (rotC c k) rd (er % 4) (le % 4) = 0 := txErr_zero hxf hck (by omega)
                have hMB := (hm195).trans (txL_spec hEB)
                obtain ⟨hlB, hsB, htB⟩ := texts_sv hMB (by rw [hxl]; omega) (by omega)
                refine l_q (q_move (v := .tuple _) rfl rfl) ?_
                refine l_q (q_extract (vs := [_, _]) (v := .slice _ _ _) rfl rfl rfl) ?_
                refine l_q (q_extract (vs := [_, _]) (v := .int _ _) rfl rfl rfl) ?_
                refine l_q (q_assign (v := .slice _ _ _) rfl rfl) ?_
                refine l_q (q_assign (v := .int _ _) rfl rfl) ?_
                refine l_nil ?_
                refine r_forget [(11, .int _ _), (12, .int _ _), (14, .slice _ _ _), (15, .int _ _), (16, .slice _ _ _), (17, .int _ _)] ⟨rfl, rfl, rfl, rfl, rfl, rfl, trivial⟩ (fun e196 => ?_)
                refine r_seq ?_
                refine r_seq ?_
                have hlen : (L192).length = (L195).length := by have h1 := congrArg List.length hMA; have h2 := congrArg List.length hMB; rw [List.length_map] at h1 h2; rw [h1, h2, rot_texts_len hkc]
                refine r_region' ?_
                refine l_q (q_move (v := .int _ _) rfl rfl) ?_
                refine l_q (q_neq rfl rfl rfl) ?_
                refine l_q (q_move (v := .bool _) rfl rfl) ?_
                have hk197 : (!decide ((txErr (c) rd (er % 4) (le % 4)) = 0)) = false := by rw [hEA]; rfl
                refine l_part 83 rfl (fun hx => absurd (hk197.symm.trans hx) (by decide)) (fun _ => ?_)
                refine l_q (q_move (v := .int _ _) rfl rfl) ?_
                refine l_q (q_neq rfl rfl rfl) ?_
                refine l_q (q_pick_f (v := .bool _) rfl rfl rfl) ?_
                refine l_q (q_move (v := .bool _) rfl rfl) ?_
                have hk198 : (!decide ((txErr (rotC c k) rd (er % 4) (le % 4)) = 0)) = false := by rw [hEB]; rfl
                refine l_part 87 rfl (fun hx => absurd (hk198.symm.trans hx) (by decide)) (fun _ => ?_)
                refine l_q (q_move (v := .slice _ _ _) rfl rfl) ?_
                refine l_q (q_len rfl Try.underlying48 rfl rfl) ?_
                refine l_q (q_move (v := .slice _ _ _) rfl rfl) ?_
                refine l_q (q_len rfl Try.underlying48 rfl rfl) ?_
                refine l_q (q_neq rfl rfl rfl) ?_
                refine l_q (q_pick_f (v := .bool _) rfl rfl rfl) ?_
                refine l_nil ?_
                refine r_forget [(11, .int _ _), (12, .int _ _), (14, .slice _ _ _), (16, .slice _ _ _), (93, .bool _)] ⟨rfl, rfl, rfl, rfl, rfl, trivial⟩ (fun e199 => ?_)
                have hk200 : (!decide (((L192).length : Int) = ((L195).length : Int))) = false := by rw [hlen]; simp
                refine r_cond_f ((congrArg Value.bool hk200 : Value.bool _ = _)) ?_
                refine r_skip ?_
                refine r_seq ?_
                refine r_seq ?_
                refine r_region' ?_
                refine l_q (q_assign (v := .int _ _) rfl rfl) ?_
                refine l_nil ?_
                refine r_forget [(11, .int _ _), (12, .int _ _), (14, .slice _ _ _), (16, .slice _ _ _), (18, .int _ _)] ⟨rfl, rfl, rfl, rfl, rfl, trivial⟩ (fun e201 => ?_)
                refine r_block ?_
                refine r_rounds (α := Nat) (fun i e wl => Knows e [(11, vint (c.length : Int)), (12, vint (k : Int)), (14, .slice oa192 ((L192).length) oc192), (16, .slice oa195 ((L195).length) oc195), (18, vint (i : Int))] ∧ (i ≤ (L192).length) ∧ (wl.ownsRow (b1 + 1) 25 1 (.slice oa192 ((L192).length) oc192) ((L192).length) ((L192).map SV.enc)) ∧ (OwnsI wl w191.heap.size 3 L192) ∧ (wl.ownsRow (b1 + 1) 25 1 (.slice oa195 ((L195).length) oc195) ((L195).length) ((L195).map SV.enc)) ∧ (OwnsI wl w194.heap.size 3 L195) ∧ (w.heap.size ≤ wl.heap.size) ∧ (Below w.heap.size w wl)) (fun i => (L192).length - i) 0 ?_ ?_
                · skip
                  exact ⟨⟨rfl, rfl, rfl, rfl, rfl, trivial⟩, (Nat.zero_le _), ho192, hos192, ho195, hos195, hsz, hB⟩
                · skip
                  rintro i el202 wl202 ⟨hkn, hki, ho192, hos192, ho195, hos195, hsz, hB⟩ ih202
                  obtain ⟨e202, rfl⟩ := knows_env hkn
                  refine r_seq ?_
                  refine r_seq ?_
                  refine r_region' ?_
                  refine l_q (q_move (v := .int _ _) rfl rfl) ?_
                  refine l_q (q_move (v := .slice _ _ _) rfl rfl) ?_
                  refine l_q (q_len rfl Try.underlying48 rfl rfl) ?_
                  refine l_q (q_lss rfl rfl rfl) ?_
                  refine l_nil ?_
                  refine r_forget [(11, .int _ _), (12, .int _ _), (14, .slice _ _ _), (16, .slice _ _ _), (18, .int _ _), (97, .bool _)] ⟨rfl, rfl, rfl, rfl, rfl, rfl, trivial⟩ (fun e203 => ?_)
                  refine r_cond rfl (fun hc204 => ?_) (fun hc204 => ?_)
                  · skip
                    try simp only [decide_eq_true_eq, decide_eq_false_iff_not, Bool.not_eq_true', Bool.not_eq_false', Bool.not_not, Bool.not_true, Bool.not_false, Bool.not_eq_true, Bool.not_eq_false, Int.not_lt, Int.not_le, Bool.and_eq_true, Bool.or_eq_true, Bool.and_eq_false_iff, Bool.or_eq_false_iff] at hc204
                    have hi1 := Int.ofNat_lt.1 hc204
                    have hea := hsA _ (getD_lt (d := sv0) hi1)
                    have hin := hren.mem (show _ ∈ texts c rd (er % 4) (le % 4).toNat by rw [← hMA]; exact List.mem_of_getElem? (sv_at hi1))
                    have hit := isText_iff.1 (mem_texts.1 (show _ ∈ texts c rd (er % 4) (le % 4).toNat by rw [← hMA]; exact List.mem_of_getElem? (sv_at hi1))).2.1
                    refine r_skip ?_
                    refine r_seq ?_
                    refine r_block ?_
                    refine r_seq ?_
                    refine r_region' ?_
                    refine l_q (q_assign (v := .slice _ _ _) rfl rfl) ?_
                    refine l_nil ?_
                    refine r_forget [(11, .int _ _), (12, .int _ _), (14, .slice _ _ _), (16, .slice _ _ _), (18, .int _ _), (19, .slice _ _ _)] ⟨rfl, rfl, rfl, rfl, rfl, rfl, trivial⟩ (fun e205 => ?_)
                    refine r_seq ?_
                    refine r_seq ?_
                    have hlt_ho192 : ∀ g, (Value.slice oa192 ((L192).length) oc192).ownBlock = some g → g < wl202.heap.size := fun g hg => (ho192.lt g hg).2
                    have hlt_hos192 := OwnsI.ltB hos192
                    have hlt_ho195 : ∀ g, (Value.slice oa195 ((L195).length) oc195).ownBlock = some g → g < wl202.heap.size := fun g hg => (ho195.lt g hg).2
                    have hlt_hos195 := OwnsI.ltB hos195
                    have hszx206 : w.heap.size ≤ wl202.heap.size := hsz
                    have hszy : wl202.heap.size ≤ wl202.heap.size := Nat.le_refl _
                    refine r_region' ?_
                    refine l_q (q_assign (v := .int _ _) rfl rfl) ?_
                    refine l_nil ?_
                    refine r_block ?_
                    refine r_rounds (α := Nat × (Option Addr) × Nat) (fun ⟨l, oa, oc⟩ e wl => Knows e [(11, vint (c.length : Int)), (12, vint (k : Int)), (14, .slice oa192 ((L192).length) oc192), (16, .slice oa195 ((L195).length) oc195), (18, vint (i : Int)), (19, .slice oa (((((L192).getD i sv0).xs.take l).map (rotN c.length k)).length) oc), (20, vint (l : Int))] ∧ (l ≤ ((L192).getD i sv0).xs.length) ∧ (wl.ownsRow wl202.heap.size 3 1 (.slice oa (((((L192).getD i sv0).xs.take l).map (rotN c.length k)).length) oc) (((((L192).getD i sv0).xs.take l).map (rotN c.length k)).length) (((((L192).getD i sv0).xs.take l).map (rotN c.length k)).map vint)) ∧ (wl.ownsRow (b1 + 1) 25 1 (.slice oa192 ((L192).length) oc192) ((L192).length) ((L192).map SV.enc)) ∧ (OwnsI wl w191.heap.size 3 L192) ∧ (wl.ownsRow (b1 + 1) 25 1 (.slice oa195 ((L195).length) oc195) ((L195).length) ((L195).map SV.enc)) ∧ (OwnsI wl w194.heap.size 3 L195) ∧ (wl202.heap.size ≤ wl.heap.size) ∧ (w.heap.size ≤ wl.heap.size) ∧ (Below w.heap.size w wl)) (fun ⟨l, oa, oc⟩ => ((L192).getD i sv0).xs.length - l) (0, none, 0) ?_ ?_
                    · skip
                      exact ⟨⟨rfl, rfl, rfl, rfl, rfl, rfl, rfl, trivial⟩, (Nat.zero_le _), (World.ownsRow_nil _ _ _ _), ho192, hos192, ho195, hos195, hszy, hsz, hB⟩
                    · skip
                      rintro ⟨l, oa, oc⟩ el207 wl207 ⟨hkn, hkl, hox, ho192, hos192, ho195, hos195, hszy, hsz, hB⟩ ih207
                      obtain ⟨e207, rfl⟩ := knows_env hkn
                      refine r_seq ?_
                      refine r_seq ?_
                      refine r_region' ?_
                      refine l_q (q_move (v := .int _ _) rfl rfl) ?_
                      refine l_q (q_move (v := .slice _ _ _) rfl rfl) ?_
                      refine l_q (q_move (v := .int _ _) rfl rfl) ?_
                      have hr209 := hos192.rows.get (i := i) (by omega)
                      obtain ⟨b208, o208, ha208, hh208⟩ := (Row.of_owns ho192).at1 i ((L192).getD i sv0) (getD_some (by omega))
                      refine l_q (q_indexAddr1 Try.underlying48 Try.sizeOf25 rfl ha208 rfl (by omega) rfl) ?_
                      refine l_q (q_load Try.isAgg25 rfl (hh208) rfl) ?_
                      refine l_q (q_len rfl Try.underlying25 rfl rfl) ?_
                      refine l_q (q_lss rfl rfl rfl) ?_
                      refine l_nil ?_
                      refine r_forget [(11, .int _ _), (12, .int _ _), (14, .slice _ _ _), (16, .slice _ _ _), (18, .int _ _), (19, .slice _ _ _), (20, .int _ _), (106, .bool _)] ⟨rfl, rfl, rfl, rfl, rfl, rfl, rfl, rfl, trivial⟩ (fun e210 => ?_)
                      refine r_cond rfl (fun hc211 => ?_) (fun hc211 => ?_)
                      · skip
                        try simp only [decide_eq_true_eq, decide_eq_false_iff_not, Bool.not_eq_true', Bool.not_eq_false', Bool.not_not, Bool.not_true, Bool.not_false, Bool.not_eq_true, Bool.not_eq_false, Int.not_lt, Int.not_le, Bool.and_eq_true, Bool.or_eq_true, Bool.and_eq_false_iff, Bool.or_eq_false_iff] at hc211
                        have hll := Int.ofNat_lt.1 hc211
                        have hlr := hit _ (getD_lt (d := 0) hll)
                        refine r_skip ?_
                        refine r_seq ?_
                        refine r_block ?_
                        refine r_region' ?_
                        refine l_q (q_move (v := .slice _ _ _) rfl rfl) ?_
                        refine l_q (q_move (v := .slice _ _ _) rfl rfl) ?_
                        refine l_q (q_move (v := .int _ _) rfl rfl) ?_
                        have hr213 := hos192.rows.get (i := i) (by omega)
                        obtain ⟨b212, o212, ha212, hh212⟩ := (Row.of_owns ho192).at1 i ((L192).getD i sv0) (getD_some (by omega))
                        refine l_q (q_indexAddr1 Try.underlying48 Try.sizeOf25 rfl ha212 rfl (by omega) rfl) ?_
                        refine l_q (q_load Try.isAgg25 rfl (hh212) rfl) ?_
                        refine l_q (q_move (v := .int _ _) rfl rfl) ?_
                        obtain ⟨b214, o214, ha214, hh214⟩ := hr213.at1 l ((((L192).getD i sv0).xs).getD l 0) (getD_some (by omega))
                        refine l_q (q_indexAddr1 Try.underlying25 Try.sizeOf3 rfl ha214 rfl (by omega) rfl) ?_
                        refine l_q (q_load Try.isAgg3 rfl (hh214) rfl) ?_
                        refine l_q (q_move (v := .int _ _) rfl rfl) ?_
                        refine l_q (q_add rfl rfl (by omega) rfl) ?_
                        refine l_q (q_move (v := .int _ _) rfl rfl) ?_
                        refine l_q (q_sub rfl rfl (by omega) rfl) ?_
                        refine l_q (q_move (v := .int _ _) rfl rfl) ?_
                        refine l_q (q_rem rfl rfl (by omega) rfl) ?_
                        have hszz215 := hszy
                        refine l_o (o_buildSlice (el := 3) (cs := [vint (((((((L192).getD i sv0).xs).getD l 0) + (c.length : Int)) - (k : Int)) % (c.length : Int))]) Try.underlying25 el3 (by decide) (by kernel_rfl) rfl (by decide) rfl ?_)
                        intro b216 w216 hzl216 hzr216 _ hb216 hE216 ho216
                        have hbs_b216 : w.heap.size ≤ b216 := Nat.le_trans hsz hzl216
                        replace hB := below_ext hB hE216 hsz
                        replace ho192 := own_ext ho192 hE216
                        replace hos192 := hos192.ext hE216
                        replace ho195 := own_ext ho195 hE216
                        replace hos195 := hos195.ext hE216
                        replace hszy := Nat.le_trans hszy hE216.size
                        replace hox := own_ext hox hE216
                        replace hr209 := hr209.ext hE216
                        replace hr213 := hr213.ext hE216
                        replace hsz := Nat.le_trans hsz hE216.size
                        replace ho216 := own_mono ho216 (show wl202.heap.size ≤ _ by omega)
                        have hszz217 := hszy
                        refine l_o (o_append_map (f := vint) ((((L192).getD i sv0).xs.take l).map (rotN c.length k)) ([((((((L192).getD i sv0).xs).getD l 0) + (c.length : Int)) - (k : Int)) % (c.length : Int)]) Try.underlying25 el3 rfl rfl hox rfl (Row.of_owns ho216) (fun _ => rfl) (by simp only [List.length_map, List.length_take, List.length_cons, List.length_nil]; omega) (by omega) rfl ?_)
                        intro a218 c218 w218 hz218 ho218 hG218
                        replace hB := below_own hB hG218 hox (by omega) hsz
                        replace hsz := Nat.le_trans hsz hG218.size
                        replace ho192 := own_sep ho192 hlt_ho192 hox hG218
                        replace hos192 := OwnsI.sep hos192 hlt_hos192 hox hG218
                        replace ho195 := own_sep ho195 hlt_ho195 hox hG218
                        replace hos195 := OwnsI.sep hos195 hlt_hos195 hox hG218
                        replace hszy := Nat.le_trans hszy hG218.size
                        refine l_q (q_assign (v := .slice _ _ _) rfl rfl) ?_
                        refine l_nil ?_
                        refine r_forget [(11, .int _ _), (12, .int _ _), (14, .slice _ _ _), (16, .slice _ _ _), (18, .int _ _), (19, .slice _ _ _), (20, .int _ _)] ⟨rfl, rfl, rfl, rfl, rfl, rfl, rfl, trivial⟩ (fun e219 => ?_)
                        refine r_inBlock ?_
                        refine r_region' ?_
                        refine l_q (q_move (v := .int _ _) rfl rfl) ?_
                        refine l_q (q_add rfl rfl (by omega) rfl) ?_
                        refine l_q (q_assign (v := .int _ _) rfl rfl) ?_
                        refine l_nil ?_
                        refine r_forget [(11, .int _ _), (12, .int _ _), (14, .slice _ _ _), (16, .slice _ _ _), (18, .int _ _), (19, .slice _ _ _), (20, .int _ _)] ⟨rfl, rfl, rfl, rfl, rfl, rfl, rfl, trivial⟩ (fun e220 => ?_)
                        have hst := rot_step (N := c.length) (k := k) hll
                        exact ih207 (l + 1, a218, c218) _ _ ⟨⟨rfl, rfl, rfl, rfl, rfl, (congrArg (fun z => Value.slice _ (List.length z) _) hst), by first | rfl | exact vint_eq (by omega), trivial⟩, (by omega), (hst ▸ ho218), ho192, hos192, ho195, hos195, hszy, hsz, hB⟩ (by first | omega | (dsimp only; omega))
                      · skip
                        try simp only [decide_eq_true_eq, decide_eq_false_iff_not, Bool.not_eq_true', Bool.not_eq_false', Bool.not_not, Bool.not_true, Bool.not_false, Bool.not_eq_true, Bool.not_eq_false, Int.not_lt, Int.not_le, Bool.and_eq_true, Bool.or_eq_true, Bool.and_eq_false_iff, Bool.or_eq_false_iff] at hc211
                        have hll := Int.ofNat_le.1 hc211
                        refine r_exit rfl ?_
                        refine r_seq ?_
                        refine r_region' ?_
                        refine l_q (q_move (v := .slice _ _ _) rfl rfl) ?_
                        refine l_q (q_move (v := .slice _ _ _) rfl rfl) ?_
                        refine l_o (o_call Try.call42 rfl (lhas_ret _ _ L195 _ _ ((((L192).getD i sv0).xs.take l).map (rotN c.length k)) _ (Row.of_owns ho195) hos195.rows (by omega) htB (Row.of_owns hox) (by rw [List.length_map, List.length_take]; omega)) rfl ?_)
                        rintro _ w221 ⟨rfl, hE221⟩
                        replace hB := below_ext hB hE221 hsz
                        replace ho192 := own_ext ho192 hE221
                        replace hos192 := hos192.ext hE221
                        replace ho195 := own_ext ho195 hE221
                        replace hos195 := hos195.ext hE221
                        replace hszy := Nat.le_trans hszy hE221.size
                        replace hox := own_ext hox hE221
                        replace hr209 := hr209.ext hE221
                        replace hsz := Nat.le_trans hsz hE221.size
                        refine l_q (q_not rfl rfl) ?_
                        refine l_nil ?_
                        refine r_forget [(11, .int _ _), (12, .int _ _), (14, .slice _ _ _), (16, .slice _ _ _), (18, .int _ _), (128, .bool _)] ⟨rfl, rfl, rfl, rfl, rfl, rfl, trivial⟩ (fun e222 => ?_)
                        have hk223 : (!(((L195).map (·.xs)).contains ((((L192).getD i sv0).xs.take l).map (rotN c.length k)))) = false := by rw [List.take_of_length_le hll, show (List.contains _ _) = true from List.contains_iff_mem.2 (by rw [hMB]; exact hin)]; rfl
                        refine r_cond_f ((congrArg Value.bool hk223 : Value.bool _ = _)) ?_
                        refine r_skip ?_
                        refine r_inBlock ?_
                        refine r_region' ?_
                        refine l_q (q_move (v := .int _ _) rfl rfl) ?_
                        refine l_q (q_add rfl rfl (by omega) rfl) ?_
                        refine l_q (q_assign (v := .int _ _) rfl rfl) ?_
                        refine l_nil ?_
                        refine r_forget [(11, .int _ _), (12, .int _ _), (14, .slice _ _ _), (16, .slice _ _ _), (18, .int _ _)] ⟨rfl, rfl, rfl, rfl, rfl, trivial⟩ (fun e224 => ?_)
                        exact ih202 (i + 1) _ _ ⟨⟨rfl, rfl, rfl, rfl, by first | rfl | exact vint_eq (by omega), trivial⟩, (by omega), ho192, hos192, ho195, hos195, hsz, hB⟩ (by first | omega | (dsimp only; omega))
                  · skip
                    try simp only [decide_eq_true_eq, decide_eq_false_iff_not, Bool.not_eq_true', Bool.not_eq_false', Bool.not_not, Bool.not_true, Bool.not_false, Bool.not_eq_true, Bool.not_eq_false, Int.not_lt, Int.not_le, Bool.and_eq_true, Bool.or_eq_true, Bool.and_eq_false_iff, Bool.or_eq_false_iff] at hc204
                    refine r_exit rfl ?_
                    refine r_seq ?_
                    refine r_region' ?_
                    refine l_o (o_call Try.call18 rfl (awake_ret _) rfl ?_)
                    rintro _ w225 ⟨rfl, hE225⟩
                    replace hB := below_ext hB hE225 hsz
                    replace ho192 := own_ext ho192 hE225
                    replace hos192 := hos192.ext hE225
                    replace ho195 := own_ext ho195 hE225
                    replace hos195 := hos195.ext hE225
                    replace hsz := Nat.le_trans hsz hE225.size
                    refine l_q (q_assign (v := .bool _) rfl rfl) ?_
                    refine l_nil ?_
                    refine r_forget [(10, .bool _)] ⟨rfl, trivial⟩ (fun e226 => ?_)
                    refine r_ret_ (vs := [.bool _]) rfl Try.func12 rfl (.nil _) ⟨rfl, trivial⟩ ?_
                    exact ⟨rfl, Ext.of_below hB⟩
end Go.Proofs.Ytkcbgpilfegofaa
