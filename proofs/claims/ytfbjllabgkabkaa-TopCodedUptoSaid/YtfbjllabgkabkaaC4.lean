/- Contracts. -/
import Derived.Test.YtfbjllabgkabkaaP4
import Derived.Test.YtfbjllabgkabkaaGvB
import Derived.Test.YtfbjllabgkabkaaF24
import Derived.Test.YtfbjllabgkabkaaF20
set_option linter.unusedVariables false
set_option linter.unusedSimpArgs false
namespace Go.Proofs.Ytfbjllabgkabkaa
open Go Go.RowKit Go.Gv Go.Fl


theorem places_ret (a : Option Addr) (cc : Nat) (c : List Sg) (S W : Int) (ka : Option Addr) (kn kc : Nat) (da : Option Addr) (dn dc : Nat) (w : World) (hrow : Row w a c.length cc 1 (c.map vstr)) (hcn : c.length ≤ 2097152) (hS : 13 ≤ S ∧ S ≤ 41) (hc3 : 3 ≤ c.length ∧ c.length ≤ 6) : Ret Try.prog 30 [.agg ⟨[.slice a c.length cc]⟩, .agg ⟨[vint S, vint W, .slice ka kn kc, .slice da dn dc]⟩] w (fun v w' => ∃ n : Nat, v = vint (n : Int) ∧ n ≤ 4 ∧ S ≤ ((c.length ^ n : Nat) : Int) ∧ Ext w w') := by
  have hB := Below.refl w.heap.size w
  have hsz : w.heap.size ≤ w.heap.size := Nat.le_refl _
  refine ret_of_runs (args := [_, _]) Try.func30 rfl (Nat.le_of_ble_eq_true rfl) (by kernel_rfl) ?_
  refine r_seq ?_
  refine r_region' ?_
  refine l_o (o_box rfl rfl rfl ?_)
  intro b1 w1 hzl1 hzr1 _ hb1 hE1
  have hbs_b1 : w.heap.size ≤ b1 := Nat.le_trans hsz hzl1
  replace hB := below_ext hB hE1 hsz
  replace hsz := Nat.le_trans hsz hE1.size
  refine l_o (o_box rfl rfl rfl ?_)
  intro b2 w2 hzl2 hzr2 _ hb2 hE2
  have hbs_b2 : w.heap.size ≤ b2 := Nat.le_trans hsz hzl2
  replace hB := below_ext hB hE2 hsz
  replace hb1 := hb1.ext hE2
  replace hsz := Nat.le_trans hsz hE2.size
  refine l_q (q_assign (v := .int _ _) rfl rfl) ?_
  refine l_nil ?_
  refine r_forget [(2, .pointer _), (3, .pointer _)] ⟨rfl, rfl, trivial⟩ (fun e3 => ?_)
  refine r_seq ?_
  refine r_region' ?_
  refine l_q (q_assign (v := .int _ _) rfl rfl) ?_
  refine l_q (q_assign (v := .int _ _) rfl rfl) ?_
  refine l_nil ?_
  refine r_seq ?_
  refine r_block ?_
  refine r_rounds (α := Nat) (fun n e wl => Knows e [(2, ptr b1 0), (3, ptr b2 0), (5, vint (n : Int)), (6, vint ((c.length ^ n : Nat) : Int))] ∧ (n ≤ 4) ∧ (Blk wl b1 [.slice a c.length cc]) ∧ (Blk wl b2 [vint S, vint W, .slice ka kn kc, .slice da dn dc]) ∧ (w.heap.size ≤ wl.heap.size) ∧ (Below w.heap.size w wl)) (fun n => 4 - n) 0 ?_ ?_
  · skip
    exact ⟨⟨rfl, rfl, rfl, rfl, trivial⟩, (by decide), hb1, hb2, hsz, hB⟩
  · skip
    rintro n el4 wl4 ⟨hkn, hn, hb1, hb2, hsz, hB⟩ ih4
    obtain ⟨e4, rfl⟩ := knows_env hkn
    refine r_seq ?_
    refine r_seq ?_
    refine r_region' ?_
    refine l_q (q_move (v := .int _ _) rfl rfl) ?_
    refine l_q (q_fieldAddr (o' := 0) rfl fld28_0 rfl) ?_
    refine l_q (q_load Try.isAgg3 rfl ((hb2.has (o := 0) rfl)) rfl) ?_
    refine l_q (q_lss rfl rfl rfl) ?_
    refine l_q (q_move (v := .bool _) rfl rfl) ?_
    refine l_part 11 rfl (fun hc5 => ?_) (fun hc5 => ?_)
    · skip
      try simp only [decide_eq_true_eq, decide_eq_false_iff_not, Bool.not_eq_true', Bool.not_eq_false', Bool.not_not, Bool.not_true, Bool.not_false, Bool.not_eq_true, Bool.not_eq_false, Int.not_lt, Int.not_le, Bool.and_eq_true, Bool.or_eq_true, Bool.and_eq_false_iff, Bool.or_eq_false_iff] at hc5
      have hlt : ((c.length ^ n : Nat) : Int) < S := hc5
      have hn3 := pow4 (n := n) hc3.1 (by omega)
      have hmul : ((c.length ^ n : Nat) : Int) * (c.length : Int) ≤ 41 * 6 := Int.mul_le_mul (by omega) (by omega) (by omega) (by decide)
      have hmul0 : 0 ≤ ((c.length ^ n : Nat) : Int) * (c.length : Int) := Int.mul_nonneg (by omega) (by omega)
      refine l_q (q_fieldAddr (o' := 0) rfl fld24_0 rfl) ?_
      refine l_q (q_load Try.isAgg22 rfl ((hb1.has (o := 0) rfl)) rfl) ?_
      refine l_q (q_len rfl Try.underlying22 rfl rfl) ?_
      refine l_q (q_gtr rfl rfl rfl) ?_
      refine l_q (q_pick_t (v := .bool _) rfl rfl rfl) ?_
      refine l_nil ?_
      refine r_forget [(2, .pointer _), (3, .pointer _), (5, .int _ _), (6, .int _ _), (16, .bool _)] ⟨rfl, rfl, rfl, rfl, rfl, trivial⟩ (fun e6 => ?_)
      have hk7 : (decide (2 < (c.length : Int))) = true := by rw [decide_eq_true_eq]; omega
      refine r_cond_t ((congrArg Value.bool hk7 : Value.bool _ = _)) ?_
      refine r_skip ?_
      refine r_block ?_
      refine r_draw ext_refl' ext_trans' [0, 1, 2, 3, 4, 5, 6, 7, 8] [] 9 (by kernel_rfl) (by kernel_rfl) ?_
      intro w8 _ hE8
      replace hB := below_ext hB hE8 hsz
      replace hb1 := hb1.ext hE8
      replace hb2 := hb2.ext hE8
      replace hsz := Nat.le_trans hsz hE8.size
      refine m_q rfl rfl (fun w' hC' => q_move (v := .int _ _) rfl rfl) ?_
      refine m_q rfl rfl (fun w' hC' => q_add rfl rfl (by omega) rfl) ?_
      refine m_q rfl rfl (fun w' hC' => q_move (v := .int _ _) rfl rfl) ?_
      refine m_q rfl rfl (fun w' hC' => q_fieldAddr (o' := 0) rfl fld24_0 rfl) ?_
      refine m_q rfl rfl (fun w' hC' => q_load Try.isAgg22 rfl (((hb1.has (o := 0) rfl).ext hC')) rfl) ?_
      refine m_q rfl rfl (fun w' hC' => q_len rfl Try.underlying22 rfl rfl) ?_
      refine m_q rfl rfl (fun w' hC' => q_mul rfl rfl (by omega) rfl) ?_
      refine m_q rfl rfl (fun w' hC' => q_assign (v := .int _ _) rfl rfl) ?_
      refine m_q rfl rfl (fun w' hC' => q_assign (v := .int _ _) rfl rfl) ?_
      refine m_nil ?_
      refine r_forget [(2, .pointer _), (3, .pointer _), (5, .int _ _), (6, .int _ _)] ⟨rfl, rfl, rfl, rfl, trivial⟩ (fun e9 => ?_)
      refine r_inBlock ?_
      exact ih4 (n + 1) _ _ ⟨⟨rfl, rfl, (vint_eq (by omega)), (vint_eq (by rw [Nat.pow_succ, Int.natCast_mul])), trivial⟩, (by omega), hb1, hb2, hsz, hB⟩ (by first | omega | (dsimp only; omega))
    · skip
      try simp only [decide_eq_true_eq, decide_eq_false_iff_not, Bool.not_eq_true', Bool.not_eq_false', Bool.not_not, Bool.not_true, Bool.not_false, Bool.not_eq_true, Bool.not_eq_false, Int.not_lt, Int.not_le, Bool.and_eq_true, Bool.or_eq_true, Bool.and_eq_false_iff, Bool.or_eq_false_iff] at hc5
      have hge : S ≤ ((c.length ^ n : Nat) : Int) := hc5
      refine l_q (q_skip rfl) ?_
      refine l_q (q_skip rfl) ?_
      refine l_q (q_skip rfl) ?_
      refine l_q (q_skip rfl) ?_
      refine l_q (q_pick_f (v := .bool _) rfl rfl rfl) ?_
      refine l_nil ?_
      refine r_forget [(2, .pointer _), (3, .pointer _), (5, .int _ _), (6, .int _ _), (16, .bool _)] ⟨rfl, rfl, rfl, rfl, rfl, trivial⟩ (fun e10 => ?_)
      refine r_cond_f rfl ?_
      refine r_exit rfl ?_
      refine r_seq ?_
      refine r_region' ?_
      refine l_q (q_move (v := .int _ _) rfl rfl) ?_
      refine l_q (q_assign (v := .int _ _) rfl rfl) ?_
      refine l_nil ?_
      refine r_forget [(4, .int _ _)] ⟨rfl, trivial⟩ (fun e11 => ?_)
      refine r_ret_ (vs := [.int _ _]) rfl Try.func30 rfl (.nil _) ⟨rfl, trivial⟩ ?_
      exact ⟨n, rfl, hn, hge, Ext.of_below hB⟩
theorem spelt_ret (a : Option Addr) (cc : Nat) (c : List Sg) (l n : Nat) (w : World) (hrow : Row w a c.length cc 1 (c.map vstr)) (hcn : c.length ≤ 2097152) (hc0 : 0 < c.length) (hl8 : l ≤ 8) (hn6 : n ≤ 1000000) : Ret Try.prog 33 [.agg ⟨[.slice a c.length cc]⟩, vint (n : Int), vint (l : Int)] w (fun v w' => ∃ ra0 rc0, v = .slice ra0 (nthL c.length l n).length rc0 ∧ w'.ownsRow w.heap.size 3 1 (.slice ra0 (nthL c.length l n).length rc0) (nthL c.length l n).length ((nthL c.length l n).map vint) ∧ Ext w w') := by
  have hB := Below.refl w.heap.size w
  have hsz : w.heap.size ≤ w.heap.size := Nat.le_refl _
  refine ret_of_runs (args := [_, _, _]) Try.func33 rfl (Nat.le_of_ble_eq_true rfl) (by kernel_rfl) ?_
  refine r_seq ?_
  refine r_region' ?_
  refine l_o (o_box rfl rfl rfl ?_)
  intro b1 w1 hzl1 hzr1 _ hb1 hE1
  have hbs_b1 : w.heap.size ≤ b1 := Nat.le_trans hsz hzl1
  replace hB := below_ext hB hE1 hsz
  replace hsz := Nat.le_trans hsz hE1.size
  refine l_q (q_assign (v := .slice _ _ _) rfl rfl) ?_
  refine l_nil ?_
  refine r_forget [(1, .int _ _), (2, .int _ _), (3, .pointer _)] ⟨rfl, rfl, rfl, trivial⟩ (fun e2 => ?_)
  refine r_seq ?_
  refine r_region' ?_
  refine l_q (q_move (v := .int _ _) rfl rfl) ?_
  refine l_o (o_makeSlice (n := l) Try.underlying26 el3 (rfl) (rfl) (by omega) (by unfold maxLen; omega) rfl ?_)
  intro b3 w3 hzl3 hzr3 _ hb3 hE3 ho3
  rw [made_one _ _ rfl] at hb3 ho3
  have hne_b1_b3 : b1 ≠ b3 := by have := hb1.lt; omega
  have hbs_b3 : w.heap.size ≤ b3 := Nat.le_trans hsz hzl3
  replace hB := below_ext hB hE3 hsz
  replace hb1 := hb1.ext hE3
  replace hsz := Nat.le_trans hsz hE3.size
  have hty := ty_of_own ho3
  replace hb3 : Blk w3 b3 ((List.replicate l 0).map vint) := by rw [List.map_replicate]; exact hb3
  refine l_q (q_assign (v := .slice _ _ _) rfl rfl) ?_
  refine l_nil ?_
  refine r_forget [(1, .int _ _), (2, .int _ _), (3, .pointer _), (7, .slice _ _ _)] ⟨rfl, rfl, rfl, rfl, trivial⟩ (fun e4 => ?_)
  refine r_seq ?_
  refine r_seq ?_
  have hT := hb3
  refine r_region' ?_
  refine l_q (q_move (v := .int _ _) rfl rfl) ?_
  refine l_q (q_sub rfl rfl (by omega) rfl) ?_
  refine l_q (q_assign (v := .int _ _) rfl rfl) ?_
  refine l_nil ?_
  refine r_forget [(1, .int _ _), (3, .pointer _), (7, .slice _ _ _), (8, .int _ _)] ⟨rfl, rfl, rfl, rfl, trivial⟩ (fun e5 => ?_)
  refine r_block ?_
  refine r_rounds (α := Nat × Nat × (List Int)) (fun ⟨m, x, D⟩ e wl => Knows e [(1, vint (x : Int)), (3, ptr b1 0), (7, .slice (some ⟨b3, 0, none⟩) l l), (8, vint ((m : Int) - 1))] ∧ (m + D.length = l) ∧ (nthL c.length l n = nthL c.length m x ++ D) ∧ (x ≤ n) ∧ (Blk wl b3 ((List.replicate m 0 ++ D).map vint)) ∧ (Blk wl b1 [.slice a c.length cc]) ∧ (TyAt wl b3 3) ∧ (w.heap.size ≤ wl.heap.size) ∧ (Below w.heap.size w wl)) (fun ⟨m, x, D⟩ => m) (l, n, []) ?_ ?_
  · skip
    exact ⟨⟨rfl, rfl, rfl, rfl, trivial⟩, (by simp), (by rw [List.append_nil]), (Nat.le_refl _), (by rw [List.append_nil]; exact hT), hb1, hty, hsz, hB⟩
  · skip
    rintro ⟨m, x, D⟩ el6 wl6 ⟨hkn, hmD, hx, hxn, hT, hb1, hty, hsz, hB⟩ ih6
    obtain ⟨e6, rfl⟩ := knows_env hkn
    refine r_seq ?_
    refine r_seq ?_
    refine r_region' ?_
    refine l_q (q_move (v := .int _ _) rfl rfl) ?_
    refine l_q (q_geq rfl rfl rfl) ?_
    refine l_nil ?_
    refine r_forget [(1, .int _ _), (3, .pointer _), (7, .slice _ _ _), (8, .int _ _), (14, .bool _)] ⟨rfl, rfl, rfl, rfl, rfl, trivial⟩ (fun e7 => ?_)
    refine r_cond rfl (fun hc8 => ?_) (fun hc8 => ?_)
    · skip
      try simp only [decide_eq_true_eq, decide_eq_false_iff_not, Bool.not_eq_true', Bool.not_eq_false', Bool.not_not, Bool.not_true, Bool.not_false, Bool.not_eq_true, Bool.not_eq_false, Int.not_lt, Int.not_le, Bool.and_eq_true, Bool.or_eq_true, Bool.and_eq_false_iff, Bool.or_eq_false_iff] at hc8
      refine r_skip ?_
      refine r_seq ?_
      refine r_block ?_
      obtain ⟨m, hm⟩ : ∃ j, m = j + 1 := ⟨m - 1, by omega⟩
      subst hm
      refine r_forget [(1, .int _ _), (3, .pointer _), (7, .slice _ _ _), (8, vint (m : Int)), (14, .bool _)] ⟨rfl, rfl, rfl, vint_eq (by omega), rfl, trivial⟩ (fun e9 => ?_)
      refine r_draw (gm_refl b3) (gm_trans b3) [0, 1, 2, 3, 4, 5, 6, 7, 8, 9, 10, 11, 12, 13, 14] [13] 4 (by kernel_rfl) (by kernel_rfl) ?_
      intro w10 _ hE10
      replace hB := below_ext hB hE10 hsz
      replace hb1 := hb1.ext hE10
      replace hty := hty.ext hE10
      replace hT := hT.ext hE10
      replace hsz := Nat.le_trans hsz hE10.size
      refine m_q rfl rfl (fun w' hC' => q_move (v := .slice _ _ _) rfl rfl) ?_
      refine m_q rfl rfl (fun w' hC' => q_move (v := .int _ _) rfl rfl) ?_
      refine m_q rfl rfl (fun w' hC' => q_move (v := .int _ _) rfl rfl) ?_
      refine m_q rfl rfl (fun w' hC' => q_fieldAddr (o' := 0) rfl fld24_0 rfl) ?_
      refine m_q rfl rfl (fun w' hC' => q_load Try.isAgg22 rfl (((hb1.step hC' (by simp; omega)).has (o := 0) rfl)) rfl) ?_
      refine m_q rfl rfl (fun w' hC' => q_len rfl Try.underlying22 rfl rfl) ?_
      refine m_q rfl rfl (fun w' hC' => q_rem rfl rfl (by omega) rfl) ?_
      refine m_q rfl rfl (fun w' hC' => q_move (v := .int _ _) rfl rfl) ?_
      refine m_q rfl rfl (fun w' hC' => q_fieldAddr (o' := 0) rfl fld24_0 rfl) ?_
      refine m_q rfl rfl (fun w' hC' => q_load Try.isAgg22 rfl (((hb1.step hC' (by simp; omega)).has (o := 0) rfl)) rfl) ?_
      refine m_q rfl rfl (fun w' hC' => q_len rfl Try.underlying22 rfl rfl) ?_
      refine m_q rfl rfl (fun w' hC' => q_quo rfl rfl (by omega) rfl) ?_
      refine m_q rfl rfl (fun w' hC' => q_indexAddr1 Try.underlying26 Try.sizeOf3 rfl rfl rfl (by omega) rfl) ?_
      refine m_o rfl rfl (o_store1t (v := vint ((x : Int) % (c.length : Int))) (o := 0 + m) Try.sizeOf3 rfl rfl rfl rfl hT hty (by rw [List.length_map]; simp only [List.length_append, List.length_replicate]; omega) rfl ?_)
      intro w11 hz11 hT hty hG11
      rw [imap_set] at hT
      refine ⟨hG11, ?_⟩
      replace hB := below_upd hB hG11 hsz (by omega)
      replace hsz : w.heap.size ≤ w11.heap.size := by rw [hz11]; exact hsz
      replace hb1 := hb1.upd hG11 (by omega)
      refine m_q rfl rfl (fun w' hC' => q_assign (v := .int _ _) rfl rfl) ?_
      refine m_nil ?_
      refine r_forget [(1, .int _ _), (3, .pointer _), (7, .slice _ _ _), (8, .int _ _)] ⟨rfl, rfl, rfl, rfl, trivial⟩ (fun e12 => ?_)
      refine r_inBlock ?_
      refine r_region' ?_
      refine l_q (q_move (v := .int _ _) rfl rfl) ?_
      refine l_q (q_sub rfl rfl (by omega) rfl) ?_
      refine l_q (q_assign (v := .int _ _) rfl rfl) ?_
      refine l_nil ?_
      refine r_forget [(1, .int _ _), (3, .pointer _), (7, .slice _ _ _), (8, .int _ _)] ⟨rfl, rfl, rfl, rfl, trivial⟩ (fun e13 => ?_)
      exact ih6 (m, x / c.length, ((x : Int) % (c.length : Int)) :: D) _ _ ⟨⟨(vint_eq (by rw [Int.natCast_ediv])), rfl, rfl, rfl, trivial⟩, (by rw [List.length_cons]; omega), (by rw [hx, nthL, List.append_assoc]; rfl), (Nat.le_trans (Nat.div_le_self _ _) hxn), (blk_eq nth_set hT), hb1, hty, hsz, hB⟩ (by first | omega | (dsimp only; omega))
    · skip
      try simp only [decide_eq_true_eq, decide_eq_false_iff_not, Bool.not_eq_true', Bool.not_eq_false', Bool.not_not, Bool.not_true, Bool.not_false, Bool.not_eq_true, Bool.not_eq_false, Int.not_lt, Int.not_le, Bool.and_eq_true, Bool.or_eq_true, Bool.and_eq_false_iff, Bool.or_eq_false_iff] at hc8
      refine r_exit rfl ?_
      refine r_seq ?_
      refine r_region' ?_
      refine l_q (q_move (v := .slice _ _ _) rfl rfl) ?_
      refine l_q (q_assign (v := .slice _ _ _) rfl rfl) ?_
      refine l_nil ?_
      refine r_forget [(6, .slice _ _ _)] ⟨rfl, trivial⟩ (fun e14 => ?_)
      refine r_ret_ (vs := [.slice _ _ _]) rfl Try.func33 rfl (.nil _) ⟨rfl, trivial⟩ ?_
      have hm0 : m = 0 := by omega
      subst hm0
      have hy : List.replicate 0 0 ++ D = nthL c.length l n := by rw [hx]; rfl
      rw [hy] at hT
      exact ⟨_, _, by rw [nthL_len]; rfl, by rw [nthL_len]; exact own_of_blk hT hty (by rw [List.length_map, nthL_len]) (by unfold maxLen; omega) (by omega), Ext.of_below hB⟩
theorem meant_ret (a : Option Addr) (cc : Nat) (c : List Sg) (ta : Option Addr) (tc : Nat) (t : List Int) (l : Nat) (w : World) (hrow : Row w a c.length cc 1 (c.map vstr)) (hcn : c.length ≤ 2097152) (ht : Row w ta t.length tc 1 (t.map vint)) (htn : t.length ≤ 2097152) (hc6 : c.length ≤ 6) (hl4 : l ≤ 4) (htx : ∀ x ∈ t, 0 ≤ x ∧ x < (c.length : Int)) : Ret Try.prog 35 [.agg ⟨[.slice a c.length cc]⟩, .slice ta t.length tc, vint (l : Int)] w (fun v w' => v = vint (meantI c.length l t) ∧ Ext w w') := by
  have hB := Below.refl w.heap.size w
  have hsz : w.heap.size ≤ w.heap.size := Nat.le_refl _
  refine ret_of_runs (args := [_, _, _]) Try.func35 rfl (Nat.le_of_ble_eq_true rfl) (by kernel_rfl) ?_
  refine r_seq ?_
  refine r_region' ?_
  refine l_o (o_box rfl rfl rfl ?_)
  intro b1 w1 hzl1 hzr1 _ hb1 hE1
  have hbs_b1 : w.heap.size ≤ b1 := Nat.le_trans hsz hzl1
  replace hB := below_ext hB hE1 hsz
  replace hsz := Nat.le_trans hsz hE1.size
  refine l_q (q_assign (v := .int _ _) rfl rfl) ?_
  refine l_nil ?_
  refine r_forget [(1, .slice _ _ _), (2, .int _ _), (3, .pointer _)] ⟨rfl, rfl, rfl, trivial⟩ (fun e2 => ?_)
  refine r_seq ?_
  refine r_seq ?_
  refine r_region' ?_
  refine l_q (q_move (v := .slice _ _ _) rfl rfl) ?_
  refine l_q (q_len rfl Try.underlying26 rfl rfl) ?_
  refine l_q (q_move (v := .int _ _) rfl rfl) ?_
  refine l_q (q_neq rfl rfl rfl) ?_
  refine l_nil ?_
  refine r_forget [(1, .slice _ _ _), (2, .int _ _), (3, .pointer _), (12, .bool _)] ⟨rfl, rfl, rfl, rfl, trivial⟩ (fun e3 => ?_)
  refine r_cond rfl (fun hc4 => ?_) (fun hc4 => ?_)
  · skip
    try simp only [decide_eq_true_eq, decide_eq_false_iff_not, Bool.not_eq_true', Bool.not_eq_false', Bool.not_not, Bool.not_true, Bool.not_false, Bool.not_eq_true, Bool.not_eq_false, Int.not_lt, Int.not_le, Bool.and_eq_true, Bool.or_eq_true, Bool.and_eq_false_iff, Bool.or_eq_false_iff] at hc4
    have hne := hc4
    refine r_seq ?_
    refine r_region' ?_
    refine l_q (q_assign (v := .int _ _) rfl rfl) ?_
    refine l_nil ?_
    refine r_forget [(6, .int _ _)] ⟨rfl, trivial⟩ (fun e5 => ?_)
    refine r_ret_ (vs := [.int _ _]) rfl Try.func35 rfl (.nil _) ⟨rfl, trivial⟩ ?_
    exact ⟨vint_eq (by unfold meantI; rw [if_neg (by omega)]), Ext.of_below hB⟩
  · skip
    try simp only [decide_eq_true_eq, decide_eq_false_iff_not, Bool.not_eq_true', Bool.not_eq_false', Bool.not_not, Bool.not_true, Bool.not_false, Bool.not_eq_true, Bool.not_eq_false, Int.not_lt, Int.not_le, Bool.and_eq_true, Bool.or_eq_true, Bool.and_eq_false_iff, Bool.or_eq_false_iff] at hc4
    have hlen : t.length = l := by omega
    refine r_skip ?_
    refine r_seq ?_
    refine r_region' ?_
    refine l_q (q_assign (v := .int _ _) rfl rfl) ?_
    refine l_nil ?_
    refine r_forget [(1, .slice _ _ _), (2, .int _ _), (3, .pointer _), (7, .int _ _)] ⟨rfl, rfl, rfl, rfl, trivial⟩ (fun e6 => ?_)
    refine r_seq ?_
    refine r_seq ?_
    refine r_region' ?_
    refine l_q (q_assign (v := .int _ _) rfl rfl) ?_
    refine l_nil ?_
    refine r_block ?_
    refine r_rounds (α := Nat × Int) (fun ⟨i, n⟩ e wl => Knows e [(1, .slice ta t.length tc), (2, vint (l : Int)), (3, ptr b1 0), (7, vint n), (8, vint (i : Int))] ∧ (i ≤ t.length) ∧ ((i = 0 ∧ n = 0) ∨ (i = 1 ∧ 0 ≤ n ∧ n ≤ 5) ∨ (i = 2 ∧ 0 ≤ n ∧ n ≤ 35) ∨ (i = 3 ∧ 0 ≤ n ∧ n ≤ 215) ∨ (i = 4 ∧ 0 ≤ n ∧ n ≤ 1295)) ∧ (n = (t.take i).foldl (fun n x => n * (c.length : Int) + x) 0) ∧ (Blk wl b1 [.slice a c.length cc]) ∧ (w.heap.size ≤ wl.heap.size) ∧ (Below w.heap.size w wl)) (fun ⟨i, n⟩ => t.length - i) (0, 0) ?_ ?_
    · skip
      exact ⟨⟨rfl, rfl, rfl, rfl, rfl, trivial⟩, (Nat.zero_le _), (by omega), rfl, hb1, hsz, hB⟩
    · skip
      rintro ⟨i, n⟩ el7 wl7 ⟨hkn, hil, hb, hf, hb1, hsz, hB⟩ ih7
      obtain ⟨e7, rfl⟩ := knows_env hkn
      refine r_seq ?_
      refine r_seq ?_
      refine r_region' ?_
      refine l_q (q_move (v := .int _ _) rfl rfl) ?_
      refine l_q (q_move (v := .int _ _) rfl rfl) ?_
      refine l_q (q_lss rfl rfl rfl) ?_
      refine l_nil ?_
      refine r_forget [(1, .slice _ _ _), (2, .int _ _), (3, .pointer _), (7, .int _ _), (8, .int _ _), (15, .bool _)] ⟨rfl, rfl, rfl, rfl, rfl, rfl, trivial⟩ (fun e8 => ?_)
      refine r_cond rfl (fun hc9 => ?_) (fun hc9 => ?_)
      · skip
        try simp only [decide_eq_true_eq, decide_eq_false_iff_not, Bool.not_eq_true', Bool.not_eq_false', Bool.not_not, Bool.not_true, Bool.not_false, Bool.not_eq_true, Bool.not_eq_false, Int.not_lt, Int.not_le, Bool.and_eq_true, Bool.or_eq_true, Bool.and_eq_false_iff, Bool.or_eq_false_iff] at hc9
        have hi : i < t.length := by omega
        have hxi := htx _ (getD_lt (l := t) (d := 0) hi)
        have hn0 : 0 ≤ n ∧ n ≤ 215 := by omega
        have hp : n * (c.length : Int) ≤ n * 6 := Int.mul_le_mul_of_nonneg_left (by omega) (by omega)
        have hp0 : 0 ≤ n * (c.length : Int) := Int.mul_nonneg (by omega) (by omega)
        refine r_skip ?_
        refine r_seq ?_
        refine r_block ?_
        refine r_draw ext_refl' ext_trans' [0, 1, 2, 3, 4, 5, 6, 7, 8, 9, 10] [] 9 (by kernel_rfl) (by kernel_rfl) ?_
        intro w10 _ hE10
        replace hB := below_ext hB hE10 hsz
        replace hb1 := hb1.ext hE10
        replace hsz := Nat.le_trans hsz hE10.size
        refine m_q rfl rfl (fun w' hC' => q_move (v := .int _ _) rfl rfl) ?_
        refine m_q rfl rfl (fun w' hC' => q_fieldAddr (o' := 0) rfl fld24_0 rfl) ?_
        refine m_q rfl rfl (fun w' hC' => q_load Try.isAgg22 rfl (((hb1.has (o := 0) rfl).ext hC')) rfl) ?_
        refine m_q rfl rfl (fun w' hC' => q_len rfl Try.underlying22 rfl rfl) ?_
        refine m_q rfl rfl (fun w' hC' => q_mul rfl rfl (by omega) rfl) ?_
        refine m_q rfl rfl (fun w' hC' => q_move (v := .slice _ _ _) rfl rfl) ?_
        refine m_q rfl rfl (fun w' hC' => q_move (v := .int _ _) rfl rfl) ?_
        obtain ⟨b11, o11, ha11, hh11⟩ := (ht.below hB).at1 i ((t).getD i 0) (getD_some (by omega))
        refine m_q rfl rfl (fun w' hC' => q_indexAddr1 Try.underlying26 Try.sizeOf3 rfl ha11 rfl (by omega) rfl) ?_
        refine m_q rfl rfl (fun w' hC' => q_load Try.isAgg3 rfl ((hh11.ext hC')) rfl) ?_
        refine m_q rfl rfl (fun w' hC' => q_add rfl rfl (by omega) rfl) ?_
        refine m_q rfl rfl (fun w' hC' => q_assign (v := .int _ _) rfl rfl) ?_
        refine m_nil ?_
        refine r_forget [(1, .slice _ _ _), (2, .int _ _), (3, .pointer _), (7, .int _ _), (8, .int _ _)] ⟨rfl, rfl, rfl, rfl, rfl, trivial⟩ (fun e12 => ?_)
        refine r_inBlock ?_
        refine r_region' ?_
        refine l_q (q_move (v := .int _ _) rfl rfl) ?_
        refine l_q (q_add rfl rfl (by omega) rfl) ?_
        refine l_q (q_assign (v := .int _ _) rfl rfl) ?_
        refine l_nil ?_
        refine r_forget [(1, .slice _ _ _), (2, .int _ _), (3, .pointer _), (7, .int _ _), (8, .int _ _)] ⟨rfl, rfl, rfl, rfl, rfl, trivial⟩ (fun e13 => ?_)
        exact ih7 (i + 1, n * (c.length : Int) + t.getD i 0) _ _ ⟨⟨rfl, rfl, rfl, rfl, (vint_eq (by omega)), trivial⟩, (by omega), (by omega), (by rw [hf]; exact fold_snoc hi), hb1, hsz, hB⟩ (by first | omega | (dsimp only; omega))
      · skip
        try simp only [decide_eq_true_eq, decide_eq_false_iff_not, Bool.not_eq_true', Bool.not_eq_false', Bool.not_not, Bool.not_true, Bool.not_false, Bool.not_eq_true, Bool.not_eq_false, Int.not_lt, Int.not_le, Bool.and_eq_true, Bool.or_eq_true, Bool.and_eq_false_iff, Bool.or_eq_false_iff] at hc9
        refine r_exit rfl ?_
        refine r_seq ?_
        refine r_region' ?_
        refine l_q (q_move (v := .int _ _) rfl rfl) ?_
        refine l_q (q_assign (v := .int _ _) rfl rfl) ?_
        refine l_nil ?_
        refine r_forget [(6, .int _ _)] ⟨rfl, trivial⟩ (fun e14 => ?_)
        refine r_ret_ (vs := [.int _ _]) rfl Try.func35 rfl (.nil _) ⟨rfl, trivial⟩ ?_
        have hil2 : i = t.length := by omega
        subst hil2
        exact ⟨vint_eq (by unfold meantI; rw [if_pos hlen, hf, List.take_length]), Ext.of_below hB⟩
theorem cand_ret (a : Option Addr) (cc : Nat) (c : List Sg) (S W : Int) (ka : Option Addr) (kn kc : Nat) (da : Option Addr) (dn dc : Nat) (num : Nat) (wa : Option Addr) (wc : Nat) (ws : List Int) (er : Int) (w : World) (hrow : Row w a c.length cc 1 (c.map vstr)) (hcn : c.length ≤ 2097152) (hfc : fault c = 0) (hc3 : 3 ≤ c.length) (hS : 13 ≤ S ∧ S ≤ 41) (hnum : (num : Int) < S) (hw : Row w wa ws.length wc 1 (ws.map (Value.int .u16))) (hwn : ws.length ≤ 2097152) (hwr : ∀ x ∈ ws, 0 ≤ x ∧ x ≤ 65535) (her : 0 ≤ er ∧ er ≤ 2) : Ret Try.prog 12 [.agg ⟨[.slice a c.length cc]⟩, .agg ⟨[vint S, vint W, .slice ka kn kc, .slice da dn dc]⟩, vint (num : Int), .slice wa ws.length wc, vint er] w (fun v w' => ∃ oa oc out, v = .tuple ⟨[.slice oa (List.length out) oc, .bool true]⟩ ∧ w'.ownsRow w.heap.size 3 1 (.slice oa out.length oc) out.length (out.map vint) ∧ (num : Int) ∈ out ∧ (∀ n ∈ out, inS S n = true) ∧ out.length ≤ 46656 ∧ Ext w w') := by
  have hc6 := (fault_zero hfc).1
  have hc0 : 0 < c.length := by omega
  have hcl4 : ∀ s ∈ c, s.length ≤ 2097152 := fun s hs => Nat.le_trans (code_short hfc s hs) (by decide)
  have hB := Below.refl w.heap.size w
  have hsz : w.heap.size ≤ w.heap.size := Nat.le_refl _
  refine ret_of_runs (args := [_, _, _, _, _]) Try.func12 rfl (Nat.le_of_ble_eq_true rfl) (by kernel_rfl) ?_
  refine r_seq ?_
  refine r_region' ?_
  refine l_o (o_box rfl rfl rfl ?_)
  intro b1 w1 hzl1 hzr1 _ hb1 hE1
  have hbs_b1 : w.heap.size ≤ b1 := Nat.le_trans hsz hzl1
  replace hB := below_ext hB hE1 hsz
  replace hsz := Nat.le_trans hsz hE1.size
  refine l_o (o_box rfl rfl rfl ?_)
  intro b2 w2 hzl2 hzr2 _ hb2 hE2
  have hne_b1_b2 : b1 ≠ b2 := by have := hb1.lt; omega
  have hbs_b2 : w.heap.size ≤ b2 := Nat.le_trans hsz hzl2
  replace hB := below_ext hB hE2 hsz
  replace hb1 := hb1.ext hE2
  replace hsz := Nat.le_trans hsz hE2.size
  refine l_q (q_assign (v := .slice _ _ _) rfl rfl) ?_
  refine l_q (q_assign (v := .bool _) rfl rfl) ?_
  refine l_nil ?_
  refine r_forget [(2, .int _ _), (3, .slice _ _ _), (4, .int _ _), (5, .pointer _), (6, .pointer _)] ⟨rfl, rfl, rfl, rfl, rfl, trivial⟩ (fun e3 => ?_)
  refine r_seq ?_
  refine r_region' ?_
  refine l_q (q_load_agg (n := 1) Try.isAgg24 Try.sizeOf24 rfl ((hb1.cells' (cs' := [_]) 0 1 rfl)) rfl rfl) ?_
  refine l_q (q_load_agg (n := 4) Try.isAgg28 Try.sizeOf28 rfl ((hb2.cells' (cs' := [_, _, _, _]) 0 4 rfl)) rfl rfl) ?_
  refine l_o (o_call Try.call30 rfl (places_ret _ _ c S W ka kn kc da dn dc _ (hrow.below hB) (by omega) hS ⟨hc3, hc6⟩) rfl ?_)
  rintro _ w4 ⟨l, rfl, hl4, hSl, hE4⟩
  replace hB := below_ext hB hE4 hsz
  replace hb1 := hb1.ext hE4
  replace hb2 := hb2.ext hE4
  replace hsz := Nat.le_trans hsz hE4.size
  have hsl := signs_len hfc (nthL_text hc0 l num)
  rw [nthL_len] at hsl
  refine l_q (q_assign (v := .int _ _) rfl rfl) ?_
  refine l_nil ?_
  refine r_forget [(2, .int _ _), (3, .slice _ _ _), (4, .int _ _), (5, .pointer _), (6, .pointer _), (12, .int _ _)] ⟨rfl, rfl, rfl, rfl, rfl, rfl, trivial⟩ (fun e5 => ?_)
  refine r_seq ?_
  refine r_draw ext_refl' ext_trans' [0, 1, 2, 3, 6, 7, 4, 5, 8, 9, 10, 11, 12, 13] [4, 5, 8] 9 (by kernel_rfl) (by kernel_rfl) ?_
  intro w6 _ hE6
  replace hB := below_ext hB hE6 hsz
  replace hb1 := hb1.ext hE6
  replace hb2 := hb2.ext hE6
  replace hsz := Nat.le_trans hsz hE6.size
  refine m_q rfl rfl (fun w' hC' => q_load_agg (n := 1) Try.isAgg24 Try.sizeOf24 rfl (((hb1.cells' (cs' := [_]) 0 1 rfl).ext hC')) rfl rfl) ?_
  refine m_q rfl rfl (fun w' hC' => q_load_agg (n := 1) Try.isAgg24 Try.sizeOf24 rfl (((hb1.cells' (cs' := [_]) 0 1 rfl).ext hC')) rfl rfl) ?_
  refine m_q rfl rfl (fun w' hC' => q_move (v := .int _ _) rfl rfl) ?_
  refine m_q rfl rfl (fun w' hC' => q_move (v := .int _ _) rfl rfl) ?_
  refine m_q rfl rfl (fun w' hC' => q_move (v := .slice _ _ _) rfl rfl) ?_
  refine m_q rfl rfl (fun w' hC' => q_move (v := .int _ _) rfl rfl) ?_
  refine m_o rfl rfl (o_call Try.call33 rfl (spelt_ret _ _ c l num _ (hrow.below hB) (by omega) hc0 (by omega) (by omega)) rfl ?_)
  rintro _ w7 ⟨a7_0, c7_0, rfl, ho7_0, hE7⟩
  replace ho7_0 := own_mono ho7_0 (show w.heap.size ≤ _ by omega)
  refine ⟨hE7, ?_⟩
  replace hB := below_ext hB hE7 hsz
  replace hb1 := hb1.ext hE7
  replace hb2 := hb2.ext hE7
  replace hsz := Nat.le_trans hsz hE7.size
  refine m_o rfl rfl (o_call Try.call32 rfl (refSigns_ret _ _ _ _ _ _ _ (hrow.below hB) (by omega) (Row.of_owns ho7_0) (by rw [nthL_len]; omega) hfc (nthL_text hc0 l num)) rfl ?_)
  rintro _ w8 ⟨rfl, hE8⟩
  refine ⟨hE8, ?_⟩
  replace hB := below_ext hB hE8 hsz
  replace hb1 := hb1.ext hE8
  replace hb2 := hb2.ext hE8
  replace ho7_0 := own_ext ho7_0 hE8
  replace hsz := Nat.le_trans hsz hE8.size
  refine m_o rfl rfl (o_call Try.call31 rfl (misread_ret (signs c (nthL c.length l num)) _ _ ws er _ (by omega) (signs_signs hfc (nthL_text hc0 l num)) (hw.below hB) hwn hwr (by omega)) rfl ?_)
  rintro _ w9 ⟨out, ys, nn, oay, ocy, rfl, hoy9, hmis, hE9⟩
  replace hoy9 := own_mono hoy9 (show w.heap.size ≤ _ by omega)
  refine ⟨hE9, ?_⟩
  replace hB := below_ext hB hE9 hsz
  replace hb1 := hb1.ext hE9
  replace hb2 := hb2.ext hE9
  replace ho7_0 := own_ext ho7_0 hE9
  replace hsz := Nat.le_trans hsz hE9.size
  obtain ⟨hmo, hmy, hml, hmd, hmn0, hmn⟩ := hmis
  have hex := doS_ex hmd
  rw [Int.sub_zero] at hex
  have hxf := ex_facts hex
  have hol : out.length ≤ 40 := by omega
  have hck : chk [out] = 0 := by rw [chk_sf]; exact (sf_mk hol (by simp) hmo rfl)
  have hte : txErr c out er (l : Int) = 0 := txErr_zero hfc hck ⟨by omega, by omega⟩
  have htr := txL_spec hte
  rw [Int.toNat_natCast] at htr
  have hfe : fe 1048576 (signs c (nthL c.length l num)) out ≤ er := Int.le_trans (fe_le hex) hmn
  refine m_q rfl rfl (fun w' hC' => q_move (v := .tuple _) rfl rfl) ?_
  refine m_q rfl rfl (fun w' hC' => q_extract (vs := [_, _]) (v := .string _) rfl rfl rfl) ?_
  refine m_q rfl rfl (fun w' hC' => q_extract (vs := [_, _]) (v := .slice _ _ _) rfl rfl rfl) ?_
  refine m_q rfl rfl (fun w' hC' => q_assign (v := .string _) rfl rfl) ?_
  refine m_q rfl rfl (fun w' hC' => q_assign (v := .slice _ _ _) rfl rfl) ?_
  refine m_nil ?_
  refine r_forget [(4, .int _ _), (5, .pointer _), (6, .pointer _), (12, .int _ _), (13, .string _)] ⟨rfl, rfl, rfl, rfl, rfl, trivial⟩ (fun e10 => ?_)
  refine r_seq ?_
  refine r_region' ?_
  refine l_q (q_load_agg (n := 1) Try.isAgg24 Try.sizeOf24 rfl ((hb1.cells' (cs' := [_]) 0 1 rfl)) rfl rfl) ?_
  refine l_o (o_call Try.call34 rfl (code_ret _ _ c _ (hrow.below hB) (by omega)) rfl ?_)
  rintro _ w11 ⟨ca11, cc11, rfl, hrc11, hE11⟩
  replace hB := below_ext hB hE11 hsz
  replace hb1 := hb1.ext hE11
  replace hb2 := hb2.ext hE11
  replace ho7_0 := own_ext ho7_0 hE11
  replace hoy9 := own_ext hoy9 hE11
  replace hsz := Nat.le_trans hsz hE11.size
  refine l_q (q_move (v := .string _) rfl rfl) ?_
  refine l_q (q_move (v := .int _ _) rfl rfl) ?_
  refine l_q (q_move (v := .int _ _) rfl rfl) ?_
  refine l_o (o_call Try.call19 rfl (texts2_ret _ _ c out er (l : Int) _ hrc11 (by omega) hcl4 (by omega)) rfl ?_)
  have hszp12 : w.heap.size ≤ w11.heap.size := hsz
  rintro _ w12 ⟨oa12, oc12, L12, rfl, ho12, hos12, hm12, hE12⟩
  replace ho12 := own_mono ho12 (show w.heap.size ≤ _ by omega)
  replace hB := below_ext hB hE12 hsz
  replace hb1 := hb1.ext hE12
  replace hb2 := hb2.ext hE12
  replace ho7_0 := own_ext ho7_0 hE12
  replace hoy9 := own_ext hoy9 hE12
  replace hrc11 := hrc11.ext hE12
  replace hsz := Nat.le_trans hsz hE12.size
  have hmt := (hm12).trans htr
  obtain ⟨hl5, _, hts⟩ := texts_sv hmt hc6 (by omega)
  refine l_q (q_move (v := .tuple _) rfl rfl) ?_
  refine l_q (q_extract (vs := [_, _]) (v := .slice _ _ _) rfl rfl rfl) ?_
  refine l_q (q_extract (vs := [_, _]) (v := .int _ _) rfl rfl rfl) ?_
  refine l_q (q_assign (v := .slice _ _ _) rfl rfl) ?_
  refine l_q (q_assign (v := .int _ _) rfl rfl) ?_
  refine l_nil ?_
  refine r_forget [(5, .pointer _), (6, .pointer _), (12, .int _ _), (13, .string _), (15, .slice _ _ _), (16, .int _ _)] ⟨rfl, rfl, rfl, rfl, rfl, rfl, trivial⟩ (fun e13 => ?_)
  refine r_seq ?_
  refine r_seq ?_
  refine r_region' ?_
  refine l_q (q_move (v := .int _ _) rfl rfl) ?_
  refine l_q (q_neq rfl rfl rfl) ?_
  refine l_q (q_move (v := .bool _) rfl rfl) ?_
  have hk14 : (!decide ((txErr c out er (l : Int)) = 0)) = false := by rw [hte]; rfl
  refine l_part 46 rfl (fun hx => absurd (hk14.symm.trans hx) (by decide)) (fun _ => ?_)
  refine l_q (q_move (v := .string _) rfl rfl) ?_
  refine l_q (q_len_str rfl Try.underlying9 rfl rfl) ?_
  refine l_q (q_gtr rfl rfl rfl) ?_
  refine l_q (q_pick_f (v := .bool _) rfl rfl rfl) ?_
  refine l_nil ?_
  refine r_forget [(5, .pointer _), (6, .pointer _), (12, .int _ _), (15, .slice _ _ _), (50, .bool _)] ⟨rfl, rfl, rfl, rfl, rfl, trivial⟩ (fun e15 => ?_)
  have hk16 : (decide (40 < ((out).length : Int))) = false := by rw [decide_eq_false_iff_not]; omega
  refine r_cond_f ((congrArg Value.bool hk16 : Value.bool _ = _)) ?_
  refine r_skip ?_
  refine r_seq ?_
  refine r_region' ?_
  refine l_q (q_assign (v := .slice _ _ _) rfl rfl) ?_
  refine l_nil ?_
  refine r_forget [(5, .pointer _), (6, .pointer _), (12, .int _ _), (15, .slice _ _ _), (17, .slice _ _ _)] ⟨rfl, rfl, rfl, rfl, rfl, trivial⟩ (fun e17 => ?_)
  refine r_seq ?_
  refine r_seq ?_
  have hBE := Below.refl w12.heap.size w12
  have hsz_hBE : w.heap.size ≤ w12.heap.size := hsz
  have hlt_hBE_b1 := hb1.lt
  have hlt_hBE_b2 := hb2.lt
  refine r_region' ?_
  refine l_q (q_assign (v := .int _ _) rfl rfl) ?_
  refine l_nil ?_
  refine r_block ?_
  refine r_rounds (α := Nat × (List Int) × (Option Addr) × Nat) (fun ⟨i, cs, oca, occ⟩ e wl => Knows e [(5, ptr b1 0), (6, ptr b2 0), (12, vint (l : Int)), (15, .slice oa12 ((L12).length) oc12), (17, .slice oca ((cs).length) occ), (18, vint (i : Int))] ∧ (i ≤ L12.length) ∧ (cs = candN c.length l S ((L12.take i).map (·.xs))) ∧ (cs.length ≤ i) ∧ (wl.ownsRow w12.heap.size 3 1 (.slice oca ((cs).length) occ) ((cs).length) ((cs).map vint)) ∧ (Below w12.heap.size w12 wl) ∧ (w.heap.size ≤ wl.heap.size) ∧ (Below w.heap.size w wl)) (fun ⟨i, cs, oca, occ⟩ => L12.length - i) (0, [], none, 0) ?_ ?_
  · skip
    exact ⟨⟨rfl, rfl, rfl, rfl, rfl, rfl, trivial⟩, (Nat.zero_le _), rfl, (Nat.le_refl _), (World.ownsRow_nil _ _ _ _), hBE, hsz, hB⟩
  · skip
    rintro ⟨i, cs, oca, occ⟩ el18 wl18 ⟨hkn, hi, hcs, hcl, hoc, hBE, hsz, hB⟩ ih18
    obtain ⟨e18, rfl⟩ := knows_env hkn
    refine r_seq ?_
    refine r_seq ?_
    refine r_region' ?_
    refine l_q (q_move (v := .int _ _) rfl rfl) ?_
    refine l_q (q_move (v := .slice _ _ _) rfl rfl) ?_
    have hbl_b1 := (hb1.ext (Ext.of_below hBE)).lt
    have hbl_b2 := (hb2.ext (Ext.of_below hBE)).lt
    have hszf19 := hBE.size
    refine l_q (q_len rfl Try.underlying55 rfl rfl) ?_
    refine l_q (q_lss rfl rfl rfl) ?_
    refine l_nil ?_
    refine r_forget [(5, .pointer _), (6, .pointer _), (12, .int _ _), (15, .slice _ _ _), (17, .slice _ _ _), (18, .int _ _), (54, .bool _)] ⟨rfl, rfl, rfl, rfl, rfl, rfl, rfl, trivial⟩ (fun e20 => ?_)
    refine r_cond rfl (fun hc21 => ?_) (fun hc21 => ?_)
    · skip
      try simp only [decide_eq_true_eq, decide_eq_false_iff_not, Bool.not_eq_true', Bool.not_eq_false', Bool.not_not, Bool.not_true, Bool.not_false, Bool.not_eq_true, Bool.not_eq_false, Int.not_lt, Int.not_le, Bool.and_eq_true, Bool.or_eq_true, Bool.and_eq_false_iff, Bool.or_eq_false_iff] at hc21
      have hil : i < L12.length := Int.ofNat_lt.1 hc21
      have htm : (L12.getD i sv0).xs ∈ texts c out er l := by rw [← hmt]; exact List.mem_map.2 ⟨_, getD_lt hil, rfl⟩
      have htxi := (mem_texts.1 htm).2.1
      have hxl9 := hts _ (getD_lt (d := sv0) hil)
      refine r_skip ?_
      refine r_seq ?_
      refine r_block ?_
      refine r_seq ?_
      refine r_draw ext_refl' ext_trans' [0, 1, 2, 3, 4, 5, 6, 7] [6] 9 (by kernel_rfl) (by kernel_rfl) ?_
      intro w22 _ hE22
      replace hB := below_ext hB hE22 hsz
      replace hBE := below_ext hBE hE22 hBE.size
      replace hoc := own_ext hoc hE22
      replace hsz := Nat.le_trans hsz hE22.size
      refine m_q rfl rfl (fun w' hC' => q_load_agg (n := 1) Try.isAgg24 Try.sizeOf24 rfl ((((hb1.ext (Ext.of_below hBE)).cells' (cs' := [_]) 0 1 rfl).ext hC')) rfl rfl) ?_
      refine m_q rfl rfl (fun w' hC' => q_move (v := .slice _ _ _) rfl rfl) ?_
      refine m_q rfl rfl (fun w' hC' => q_move (v := .int _ _) rfl rfl) ?_
      have hr24 := (hos12.rows.ext (Ext.of_below hBE)).get (i := i) (by omega)
      obtain ⟨b23, o23, ha23, hh23⟩ := ((Row.of_owns ho12).ext (Ext.of_below hBE)).at1 i ((L12).getD i sv0) (getD_some (by omega))
      refine m_q rfl rfl (fun w' hC' => q_indexAddr1 Try.underlying55 Try.sizeOf26 rfl ha23 rfl (by omega) rfl) ?_
      refine m_q rfl rfl (fun w' hC' => q_load Try.isAgg26 rfl ((hh23.ext hC')) rfl) ?_
      refine m_q rfl rfl (fun w' hC' => q_move (v := .int _ _) rfl rfl) ?_
      have hbl_b1 := (hb1.ext (Ext.of_below hBE)).lt
      have hbl_b2 := (hb2.ext (Ext.of_below hBE)).lt
      have hszf25 := hBE.size
      refine m_o rfl rfl (o_call Try.call35 rfl (meant_ret _ _ c _ _ (((L12).getD i sv0).xs) l _ (hrow.below hB) (by omega) hr24 (by omega) (by omega) (by omega) (isText_iff.1 htxi)) rfl ?_)
      rintro _ w26 ⟨rfl, hE26⟩
      refine ⟨hE26, ?_⟩
      replace hB := below_ext hB hE26 hsz
      replace hBE := below_ext hBE hE26 hBE.size
      replace hoc := own_ext hoc hE26
      replace hr24 := hr24.ext hE26
      replace hsz := Nat.le_trans hsz hE26.size
      refine m_q rfl rfl (fun w' hC' => q_assign (v := .int _ _) rfl rfl) ?_
      refine m_nil ?_
      refine r_forget [(5, .pointer _), (6, .pointer _), (12, .int _ _), (15, .slice _ _ _), (17, .slice _ _ _), (18, .int _ _), (19, .int _ _)] ⟨rfl, rfl, rfl, rfl, rfl, rfl, rfl, trivial⟩ (fun e27 => ?_)
      refine r_seq ?_
      refine r_region' ?_
      refine l_q (q_move (v := .int _ _) rfl rfl) ?_
      refine l_q (q_geq rfl rfl rfl) ?_
      refine l_q (q_move (v := .bool _) rfl rfl) ?_
      refine l_part 66 rfl (fun hc28 => ?_) (fun hc28 => ?_)
      · skip
        try simp only [decide_eq_true_eq, decide_eq_false_iff_not, Bool.not_eq_true', Bool.not_eq_false', Bool.not_not, Bool.not_true, Bool.not_false, Bool.not_eq_true, Bool.not_eq_false, Int.not_lt, Int.not_le, Bool.and_eq_true, Bool.or_eq_true, Bool.and_eq_false_iff, Bool.or_eq_false_iff] at hc28
        have hm0 := hc28
        refine l_q (q_move (v := .int _ _) rfl rfl) ?_
        refine l_q (q_fieldAddr (o' := 0) rfl fld28_0 rfl) ?_
        refine l_q (q_load Try.isAgg3 rfl (((hb2.ext (Ext.of_below hBE)).has (o := 0) rfl)) rfl) ?_
        refine l_q (q_lss rfl rfl rfl) ?_
        refine l_q (q_pick_t (v := .bool _) rfl rfl rfl) ?_
        refine l_nil ?_
        refine r_forget [(5, .pointer _), (6, .pointer _), (12, .int _ _), (15, .slice _ _ _), (17, .slice _ _ _), (18, .int _ _), (19, .int _ _), (71, .bool _)] ⟨rfl, rfl, rfl, rfl, rfl, rfl, rfl, rfl, trivial⟩ (fun e29 => ?_)
        refine r_cond rfl (fun hc30 => ?_) (fun hc30 => ?_)
        · skip
          try simp only [decide_eq_true_eq, decide_eq_false_iff_not, Bool.not_eq_true', Bool.not_eq_false', Bool.not_not, Bool.not_true, Bool.not_false, Bool.not_eq_true, Bool.not_eq_false, Int.not_lt, Int.not_le, Bool.and_eq_true, Bool.or_eq_true, Bool.and_eq_false_iff, Bool.or_eq_false_iff] at hc30
          have hmS := hc30
          refine r_region' ?_
          refine l_q (q_move (v := .slice _ _ _) rfl rfl) ?_
          refine l_q (q_move (v := .int _ _) rfl rfl) ?_
          have hbl_b1 := (hb1.ext (Ext.of_below hBE)).lt
          have hbl_b2 := (hb2.ext (Ext.of_below hBE)).lt
          have hszf31 := hBE.size
          refine l_o (o_buildSlice (el := 3) (cs := [vint (meantI c.length l (((L12).getD i sv0).xs))]) Try.underlying26 el3 (by decide) (by kernel_rfl) rfl (by decide) rfl ?_)
          intro b32 w32 hzl32 hzr32 _ hb32 hE32 ho32
          have hne_b1_b32 : b1 ≠ b32 := by have := (hb1.ext (Ext.of_below hBE)).lt; omega
          have hne_b2_b32 : b2 ≠ b32 := by have := (hb2.ext (Ext.of_below hBE)).lt; omega
          have hbs_b32 : w.heap.size ≤ b32 := Nat.le_trans hsz hzl32
          replace hB := below_ext hB hE32 hsz
          replace hBE := below_ext hBE hE32 hBE.size
          replace hoc := own_ext hoc hE32
          replace hr24 := hr24.ext hE32
          replace hsz := Nat.le_trans hsz hE32.size
          replace ho32 := own_mono ho32 (show w12.heap.size ≤ _ by omega)
          have hbl_b1 := (hb1.ext (Ext.of_below hBE)).lt
          have hbl_b2 := (hb2.ext (Ext.of_below hBE)).lt
          have hszf33 := hBE.size
          refine l_o (o_append_map (f := vint) (cs) ([meantI c.length l (((L12).getD i sv0).xs)]) Try.underlying26 el3 rfl rfl hoc rfl (Row.of_owns ho32) (fun _ => rfl) (by (try simp only [List.length_append, List.length_cons, List.length_nil, List.length_take, List.length_drop, List.length_replicate]); omega) (by omega) rfl ?_)
          intro a34 c34 w34 hz34 ho34 hG34
          replace hB := below_own hB hG34 hoc (by omega) hsz
          replace hsz := Nat.le_trans hsz hG34.size
          replace hBE := below_own hBE hG34 hoc (by first | exact Nat.le_refl _ | omega) hBE.size
          refine l_q (q_assign (v := .slice _ _ _) rfl rfl) ?_
          refine l_nil ?_
          refine r_forget [(5, .pointer _), (6, .pointer _), (12, .int _ _), (15, .slice _ _ _), (17, .slice _ _ _), (18, .int _ _)] ⟨rfl, rfl, rfl, rfl, rfl, rfl, trivial⟩ (fun e35 => ?_)
          refine r_inBlock ?_
          refine r_region' ?_
          refine l_q (q_move (v := .int _ _) rfl rfl) ?_
          refine l_q (q_add rfl rfl (by omega) rfl) ?_
          refine l_q (q_assign (v := .int _ _) rfl rfl) ?_
          refine l_nil ?_
          refine r_forget [(5, .pointer _), (6, .pointer _), (12, .int _ _), (15, .slice _ _ _), (17, .slice _ _ _), (18, .int _ _)] ⟨rfl, rfl, rfl, rfl, rfl, rfl, trivial⟩ (fun e36 => ?_)
          exact ih18 (i + 1, cs ++ [meantI c.length l (((L12).getD i sv0).xs)], a34, c34) _ _ ⟨⟨rfl, rfl, rfl, rfl, rfl, (vint_eq (by omega)), trivial⟩, (by omega), (by first | exact cand_yes hil hcs hm0 hmS | exact cand_no hil hcs hmn9), (by (try rw [List.length_append]); (try simp only [List.length_cons, List.length_nil]); omega), ho34, hBE, hsz, hB⟩ (by first | omega | (dsimp only; omega))
        · skip
          try simp only [decide_eq_true_eq, decide_eq_false_iff_not, Bool.not_eq_true', Bool.not_eq_false', Bool.not_not, Bool.not_true, Bool.not_false, Bool.not_eq_true, Bool.not_eq_false, Int.not_lt, Int.not_le, Bool.and_eq_true, Bool.or_eq_true, Bool.and_eq_false_iff, Bool.or_eq_false_iff] at hc30
          have hmn9 : ¬ (0 ≤ meantI c.length l (L12.getD i sv0).xs ∧ meantI c.length l (L12.getD i sv0).xs < S) := by omega
          refine r_skip ?_
          refine r_inBlock ?_
          refine r_region' ?_
          refine l_q (q_move (v := .int _ _) rfl rfl) ?_
          refine l_q (q_add rfl rfl (by omega) rfl) ?_
          refine l_q (q_assign (v := .int _ _) rfl rfl) ?_
          refine l_nil ?_
          refine r_forget [(5, .pointer _), (6, .pointer _), (12, .int _ _), (15, .slice _ _ _), (17, .slice _ _ _), (18, .int _ _)] ⟨rfl, rfl, rfl, rfl, rfl, rfl, trivial⟩ (fun e37 => ?_)
          exact ih18 (i + 1, cs, oca, occ) _ _ ⟨⟨rfl, rfl, rfl, rfl, rfl, (vint_eq (by omega)), trivial⟩, (by omega), (by first | exact cand_yes hil hcs hm0 hmS | exact cand_no hil hcs hmn9), (by (try rw [List.length_append]); (try simp only [List.length_cons, List.length_nil]); omega), hoc, hBE, hsz, hB⟩ (by first | omega | (dsimp only; omega))
      · skip
        try simp only [decide_eq_true_eq, decide_eq_false_iff_not, Bool.not_eq_true', Bool.not_eq_false', Bool.not_not, Bool.not_true, Bool.not_false, Bool.not_eq_true, Bool.not_eq_false, Int.not_lt, Int.not_le, Bool.and_eq_true, Bool.or_eq_true, Bool.and_eq_false_iff, Bool.or_eq_false_iff] at hc28
        have hmn9 : ¬ (0 ≤ meantI c.length l (L12.getD i sv0).xs ∧ meantI c.length l (L12.getD i sv0).xs < S) := by omega
        refine l_q (q_skip rfl) ?_
        refine l_q (q_skip rfl) ?_
        refine l_q (q_skip rfl) ?_
        refine l_q (q_skip rfl) ?_
        refine l_q (q_pick_f (v := .bool _) rfl rfl rfl) ?_
        refine l_nil ?_
        refine r_forget [(5, .pointer _), (6, .pointer _), (12, .int _ _), (15, .slice _ _ _), (17, .slice _ _ _), (18, .int _ _), (19, .int _ _), (71, .bool _)] ⟨rfl, rfl, rfl, rfl, rfl, rfl, rfl, rfl, trivial⟩ (fun e38 => ?_)
        refine r_cond_f rfl ?_
        refine r_skip ?_
        refine r_inBlock ?_
        refine r_region' ?_
        refine l_q (q_move (v := .int _ _) rfl rfl) ?_
        refine l_q (q_add rfl rfl (by omega) rfl) ?_
        refine l_q (q_assign (v := .int _ _) rfl rfl) ?_
        refine l_nil ?_
        refine r_forget [(5, .pointer _), (6, .pointer _), (12, .int _ _), (15, .slice _ _ _), (17, .slice _ _ _), (18, .int _ _)] ⟨rfl, rfl, rfl, rfl, rfl, rfl, trivial⟩ (fun e39 => ?_)
        exact ih18 (i + 1, cs, oca, occ) _ _ ⟨⟨rfl, rfl, rfl, rfl, rfl, (vint_eq (by omega)), trivial⟩, (by omega), (by first | exact cand_yes hil hcs hm0 hmS | exact cand_no hil hcs hmn9), (by (try rw [List.length_append]); (try simp only [List.length_cons, List.length_nil]); omega), hoc, hBE, hsz, hB⟩ (by first | omega | (dsimp only; omega))
    · skip
      try simp only [decide_eq_true_eq, decide_eq_false_iff_not, Bool.not_eq_true', Bool.not_eq_false', Bool.not_not, Bool.not_true, Bool.not_false, Bool.not_eq_true, Bool.not_eq_false, Int.not_lt, Int.not_le, Bool.and_eq_true, Bool.or_eq_true, Bool.and_eq_false_iff, Bool.or_eq_false_iff] at hc21
      refine r_exit rfl ?_
      refine r_seq ?_
      refine r_region' ?_
      refine l_q (q_move (v := .slice _ _ _) rfl rfl) ?_
      refine l_q (q_assign (v := .slice _ _ _) rfl rfl) ?_
      refine l_q (q_assign (v := .bool _) rfl rfl) ?_
      refine l_nil ?_
      refine r_forget [(10, .slice _ _ _), (11, .bool _)] ⟨rfl, rfl, trivial⟩ (fun e40 => ?_)
      refine r_ret_ (vs := [.slice _ _ _, .bool _]) rfl Try.func12 rfl (.nil _) ⟨rfl, rfl, trivial⟩ ?_
      have hil2 : i = L12.length := by omega
      rw [hil2, List.take_length, hmt] at hcs
      exact ⟨_, _, cs, rfl, own_mono hoc (by omega), (by rw [hcs]; exact candN_mem hc0 hnum (by omega) hfe), (by rw [hcs]; exact candN_in), (by omega), Ext.of_below hB⟩
end Go.Proofs.Ytfbjllabgkabkaa
