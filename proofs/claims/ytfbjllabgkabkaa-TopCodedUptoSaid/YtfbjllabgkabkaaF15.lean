/- Contracts. -/
import Derived.Test.YtfbjllabgkabkaaF14
set_option linter.unusedVariables false
set_option linter.unusedSimpArgs false
namespace Go.Proofs.Ytfbjllabgkabkaa
open Go Go.RowKit Go.Gv Go.Fl

def afL (rd : Sg) (R B : List Int) (la : UInt8) : Sg → List Int
  | [] => R
  | x :: xs => afL rd (so rd R B la x 41) R x xs
theorem afL_step {rd s : Sg} {R B : List Int} {la : UInt8} {k : Nat} (h : k < s.length) : afL rd R B la (s.drop k) = afL rd (so rd R B la (s.getD k 0) 41) R (s.getD k 0) (s.drop (k + 1)) := by
  rw [drop_getD (d := 0) h, afL]
theorem zeros_b (i : Nat) : 0 ≤ (List.replicate 41 (0 : Int)).getD i 0 ∧ (List.replicate 41 (0 : Int)).getD i 0 ≤ 1048576 := by
  have : (List.replicate 41 (0 : Int)).getD i 0 = 0 := by
    rw [List.getD_eq_getElem?_getD, List.getElem?_replicate]; split <;> rfl
  rw [this]; decide
theorem so_b {R B : List Int} (hR : ∀ i, 0 ≤ R.getD i 0 ∧ R.getD i 0 ≤ 1048576) (hB : ∀ i, 0 ≤ B.getD i 0 ∧ B.getD i 0 ≤ 1048576) (rd : Sg) (la sg : UInt8) (i : Nat) : 0 ≤ (so rd R B la sg 41).getD i 0 ∧ (so rd R B la sg 41).getD i 0 ≤ 1048576 := by
  by_cases h : i < 41
  · rw [so_get h]; exact sgv_bounds hR hB rd la sg i
  · have : (so rd R B la sg 41).getD i 0 = 0 := by
      rw [List.getD_eq_getElem?_getD, List.getElem?_eq_none (by rw [so_len rd R B la sg 41 (by omega)]; omega)]; rfl
    rw [this]; decide

theorem fld82_2 (w : World) (b o : Nat) : (Instr.fieldAt 82 (ptr b o) 2).run Try.prog w = .ok (ptr b (o + 2)) w := by
  simp [Instr.fieldAt, run_underlying Try.underlying82, fieldPlace, Instr.sureAddr, Try.sizeOf3, Addr.add_lit]
theorem hopeless1_ret (b : Nat) (x y : Value) (er n : Int) (w : World) (hb : Blk w b [x, y, vint er]) : Ret Try.prog 75 [vint n, ptr b 0] w (fun v w' => v = .bool (decide (n ≤ er)) ∧ w = w') := by
  have hbl := hb.lt
  have hB := Below.refl w.heap.size w
  have hsz : w.heap.size ≤ w.heap.size := Nat.le_refl _
  refine ret_of_runs (args := [_, _]) Try.func75 rfl (Nat.le_of_ble_eq_true rfl) (by kernel_rfl) ?_
  refine r_seq ?_
  refine r_region' ?_
  refine l_q (q_assign (v := .bool _) rfl rfl) ?_
  refine l_nil ?_
  refine r_forget [(0, .int _ _), (1, .pointer _)] ⟨rfl, rfl, trivial⟩ (fun e1 => ?_)
  refine r_seq ?_
  refine r_region' ?_
  refine l_q (q_move (v := .int _ _) rfl rfl) ?_
  refine l_q (q_fieldAddr (o' := 2) rfl fld82_2 rfl) ?_
  refine l_q (q_load Try.isAgg3 rfl (((hb.below hB (by omega)).has (o := 2) rfl)) rfl) ?_
  refine l_q (q_leq rfl rfl rfl) ?_
  refine l_q (q_assign (v := .bool _) rfl rfl) ?_
  refine l_nil ?_
  refine r_forget [(3, .bool _)] ⟨rfl, trivial⟩ (fun e2 => ?_)
  refine r_ret_ (vs := [.bool _]) rfl Try.func75 rfl (.nil _) ⟨rfl, trivial⟩ ?_
  exact ⟨rfl, rfl⟩
theorem after_ret (a : Option Addr) (cc : Nat) (c : List Sg) (rd : Sg) (er : Int) (R : List Int) (s : Sg) (w : World) (hrow : Row w a c.length cc 1 (c.map vstr)) (hcn : c.length ≤ 2097152) (hrd : rd.length ≤ 40) (hRl : R.length = 41) (hRb : ∀ i, 0 ≤ R.getD i 0 ∧ R.getD i 0 ≤ 1048576) (hs : s.length ≤ 2097152) : Ret Try.prog 65 [.agg ⟨[.slice a c.length cc, vstr rd, vint er]⟩, .agg ⟨(R).map vint⟩, vstr s] w (fun v w' => v = .agg ⟨(afL rd R (List.replicate 41 0) 32 s).map vint⟩ ∧ Ext w w') := by
  have hB := Below.refl w.heap.size w
  have hsz : w.heap.size ≤ w.heap.size := Nat.le_refl _
  refine ret_of_runs (args := [_, _, _]) Try.func65 rfl (Nat.le_of_ble_eq_true rfl) (by kernel_rfl) ?_
  refine r_seq ?_
  refine r_region' ?_
  refine l_o (o_box rfl rfl rfl ?_)
  intro b1 w1 hzl1 hzr1 _ hb1 hE1
  have hbs_b1 : w.heap.size ≤ b1 := Nat.le_trans hsz hzl1
  replace hB := below_ext hB hE1 hsz
  replace hsz := Nat.le_trans hsz hE1.size
  refine l_o (o_box rfl rfl rfl ?_)
  intro b2 w2 hzl2 hzr2 _ hb2 hE2
  have hne_b1_b2 : b1 ≠ b2 := by have := hb1.lt; omega
  have hbs_b2 : w.heap.size ≤ b2 := Nat.le_trans hsz hzl2
  replace hB := below_ext hB hE2 hsz
  replace hb1 := hb1.ext hE2
  replace hsz := Nat.le_trans hsz hE2.size
  refine l_o (o_alloc Try.zeroValue101 rfl rfl ?_)
  intro b3 w3 hzl3 hzr3 _ hb3 hE3
  have hne_b1_b3 : b1 ≠ b3 := by have := hb1.lt; omega
  have hne_b2_b3 : b2 ≠ b3 := by have := hb2.lt; omega
  have hbs_b3 : w.heap.size ≤ b3 := Nat.le_trans hsz hzl3
  replace hB := below_ext hB hE3 hsz
  replace hb1 := hb1.ext hE3
  replace hb2 := hb2.ext hE3
  replace hsz := Nat.le_trans hsz hE3.size
  refine l_nil ?_
  refine r_forget [(2, .string _), (3, .pointer _), (4, .pointer _), (6, .pointer _)] ⟨rfl, rfl, rfl, rfl, trivial⟩ (fun e4 => ?_)
  refine r_seq ?_
  refine r_region' ?_
  refine l_o (o_alloc Try.zeroValue101 rfl rfl ?_)
  intro b5 w5 hzl5 hzr5 _ hb5 hE5
  have hne_b1_b5 : b1 ≠ b5 := by have := hb1.lt; omega
  have hne_b2_b5 : b2 ≠ b5 := by have := hb2.lt; omega
  have hne_b3_b5 : b3 ≠ b5 := by have := hb3.lt; omega
  have hbs_b5 : w.heap.size ≤ b5 := Nat.le_trans hsz hzl5
  replace hB := below_ext hB hE5 hsz
  replace hb1 := hb1.ext hE5
  replace hb2 := hb2.ext hE5
  replace hb3 := hb3.ext hE5
  replace hsz := Nat.le_trans hsz hE5.size
  refine l_nil ?_
  refine r_seq ?_
  replace hb5 : Blk w5 b5 ((List.replicate 41 (0 : Int)).map vint) := hb5
  refine r_region' ?_
  refine l_q (q_assign (v := .int _ _) rfl rfl) ?_
  refine l_nil ?_
  refine r_seq ?_
  refine r_seq ?_
  refine r_region' ?_
  refine l_q (q_move (v := .string _) rfl rfl) ?_
  refine l_o (o_toBytesB Try.underlying9 Try.underlying98 Try.underlying5 rfl rfl ?_)
  intro b6 c6 w6 hzl6 hzr6 hr6 hE6
  have hne_b1_b6 : b6 ≠ b1 := by have := hb1.lt; omega
  have hne_b2_b6 : b6 ≠ b2 := by have := hb2.lt; omega
  have hne_b3_b6 : b6 ≠ b3 := by have := hb3.lt; omega
  have hne_b5_b6 : b6 ≠ b5 := by have := hb5.lt; omega
  have hbs_b6 : w.heap.size ≤ b6 := Nat.le_trans hsz hzl6
  replace hB := below_ext hB hE6 hsz
  replace hb1 := hb1.ext hE6
  replace hb2 := hb2.ext hE6
  replace hb3 := hb3.ext hE6
  replace hb5 := hb5.ext hE6
  replace hsz := Nat.le_trans hsz hE6.size
  refine l_q (q_len rfl Try.underlying98 rfl rfl) ?_
  refine l_q (q_move (v := .int _ _) rfl rfl) ?_
  refine l_nil ?_
  refine r_forget [(3, .pointer _), (4, .pointer _), (6, .pointer _), (7, .pointer _), (8, .int _ _), (12, .slice _ _ _), (13, .int _ _), (14, .int _ _)] ⟨rfl, rfl, rfl, rfl, rfl, rfl, rfl, rfl, trivial⟩ (fun e7 => ?_)
  refine r_block ?_
  refine r_rounds (α := Nat × (List Int) × (List Int) × UInt8) (fun ⟨k, Rg, Bg, la⟩ e wl => Knows e [(3, ptr b1 0), (4, ptr b2 0), (6, ptr b3 0), (7, ptr b5 0), (8, .int .u8 la.toNat), (12, .slice (some ⟨b6, 0, none⟩) ((s).length) c6), (13, vint ((s).length : Int)), (14, vint (k : Int))] ∧ (k ≤ s.length) ∧ (Rg.length = 41) ∧ (Bg.length = 41) ∧ (∀ i, 0 ≤ Rg.getD i 0 ∧ Rg.getD i 0 ≤ 1048576) ∧ (∀ i, 0 ≤ Bg.getD i 0 ∧ Bg.getD i 0 ≤ 1048576) ∧ (afL rd R (List.replicate 41 0) 32 s = afL rd Rg Bg la (s.drop k)) ∧ (Blk wl b2 (Rg.map vint)) ∧ (Blk wl b5 (Bg.map vint)) ∧ (Blk wl b1 [.slice a c.length cc, vstr rd, vint er]) ∧ (Blk wl b3 [vint 0, vint 0, vint 0, vint 0, vint 0, vint 0, vint 0, vint 0, vint 0, vint 0, vint 0, vint 0, vint 0, vint 0, vint 0, vint 0, vint 0, vint 0, vint 0, vint 0, vint 0, vint 0, vint 0, vint 0, vint 0, vint 0, vint 0, vint 0, vint 0, vint 0, vint 0, vint 0, vint 0, vint 0, vint 0, vint 0, vint 0, vint 0, vint 0, vint 0, vint 0]) ∧ (Row wl (some ⟨b6, 0, none⟩) ((s).length) c6 1 ((s).map vbyte)) ∧ (w.heap.size ≤ wl.heap.size) ∧ (Below w.heap.size w wl)) (fun ⟨k, Rg, Bg, la⟩ => s.length - k) (0, R, List.replicate 41 0, 32) ?_ ?_
  · skip
    exact ⟨⟨rfl, rfl, rfl, rfl, rfl, rfl, rfl, rfl, trivial⟩, (Nat.zero_le _), hRl, (by simp), hRb, zeros_b, rfl, hb2, hb5, hb1, hb3, hr6, hsz, hB⟩
  · skip
    rintro ⟨k, Rg, Bg, la⟩ el8 wl8 ⟨hkn, hk, hRg, hBg, hRb2, hBb2, haf, hb2, hb5, hb1, hb3, hr6, hsz, hB⟩ ih8
    obtain ⟨e8, rfl⟩ := knows_env hkn
    refine r_seq ?_
    refine r_region' ?_
    refine l_q (q_lss rfl rfl rfl) ?_
    refine l_nil ?_
    refine r_seq ?_
    refine r_cond rfl (fun hc9 => ?_) (fun hc9 => ?_)
    · skip
      try simp only [decide_eq_true_eq, decide_eq_false_iff_not, Bool.not_eq_true', Bool.not_eq_false', Bool.not_not, Bool.not_true, Bool.not_false, Bool.not_eq_true, Bool.not_eq_false, Int.not_lt, Int.not_le, Bool.and_eq_true, Bool.or_eq_true, Bool.and_eq_false_iff, Bool.or_eq_false_iff] at hc9
      refine r_skip ?_
      refine r_seq ?_
      refine r_block ?_
      refine r_seq ?_
      refine r_region' ?_
      obtain ⟨b10, o10, ha10, hh10⟩ := hr6.at1 k ((s).getD k 0) (getD_some (by omega))
      refine l_q (q_indexAddr1 Try.underlying98 Try.sizeOf5 rfl ha10 rfl (by omega) rfl) ?_
      refine l_q (q_load Try.isAgg5 rfl (hh10) rfl) ?_
      refine l_q (q_assign (v := .int _ _) rfl rfl) ?_
      refine l_nil ?_
      refine r_forget [(3, .pointer _), (4, .pointer _), (6, .pointer _), (7, .pointer _), (8, .int _ _), (10, .int _ _), (12, .slice _ _ _), (13, .int _ _), (14, .int _ _)] ⟨rfl, rfl, rfl, rfl, rfl, rfl, rfl, rfl, rfl, trivial⟩ (fun e11 => ?_)
      refine r_seq ?_
      refine r_draw ext_refl' ext_trans' [0, 1, 2, 3, 4, 6, 5, 7, 8] [5, 7, 8, 1007, 1008] 2 (by kernel_rfl) (by kernel_rfl) ?_
      intro w12 _ hE12
      replace hB := below_ext hB hE12 hsz
      replace hb1 := hb1.ext hE12
      replace hb2 := hb2.ext hE12
      replace hb3 := hb3.ext hE12
      replace hb5 := hb5.ext hE12
      replace hr6 := hr6.ext hE12
      replace hsz := Nat.le_trans hsz hE12.size
      refine m_q rfl rfl (fun w' hC' => q_load_agg (n := 3) Try.isAgg82 Try.sizeOf82 rfl (((hb1.cells' (cs' := [_, _, _]) 0 3 rfl).ext hC')) rfl rfl) ?_
      refine m_q rfl rfl (fun w' hC' => q_load_agg (n := 41) Try.isAgg101 Try.sizeOf101 rfl (((hb2.cells0).ext hC')) (by rw [List.length_map]; assumption) rfl) ?_
      refine m_q rfl rfl (fun w' hC' => q_load_agg (n := 41) Try.isAgg101 Try.sizeOf101 rfl (((hb5.cells0).ext hC')) (by rw [List.length_map]; assumption) rfl) ?_
      refine m_q rfl rfl (fun w' hC' => q_move (v := .int _ _) rfl rfl) ?_
      refine m_q rfl rfl (fun w' hC' => q_move (v := .int _ _) rfl rfl) ?_
      refine m_q rfl rfl (fun w' hC' => q_load_agg (n := 41) Try.isAgg101 Try.sizeOf101 rfl (((hb2.cells0).ext hC')) (by rw [List.length_map]; assumption) rfl) ?_
      refine m_o rfl rfl (o_call Try.call76 rfl (sign_ret _ _ c rd er Rg Bg la (s.getD k 0) _ (hrow.below hB) hcn hrd hRg hBg hRb2 hBb2) rfl ?_)
      rintro _ w13 ⟨rfl, hE13⟩
      refine ⟨hE13, ?_⟩
      replace hB := below_ext hB hE13 hsz
      replace hb1 := hb1.ext hE13
      replace hb2 := hb2.ext hE13
      replace hb3 := hb3.ext hE13
      replace hb5 := hb5.ext hE13
      replace hr6 := hr6.ext hE13
      replace hsz := Nat.le_trans hsz hE13.size
      refine m_last rfl rfl rfl (o_store_all (cs' := (so rd Rg Bg la (s.getD k 0) 41).map vint) Try.sizeOf101 rfl rfl hb2 (by rw [List.length_map]; assumption) (by rw [List.length_map]; exact so_len _ _ _ _ _ _) (all_one_map _ _ (fun _ => rfl)) rfl ?_)
      intro w14 hz14 hb2 hG14
      replace hB := below_upd hB hG14 hsz (by omega)
      replace hsz : w.heap.size ≤ w14.heap.size := by rw [hz14]; exact hsz
      replace hb1 := hb1.upd hG14 (by omega)
      replace hb3 := hb3.upd hG14 (by omega)
      replace hb5 := hb5.upd hG14 (by omega)
      replace hr6 := hr6.stepB hG14 (by omega)
      refine m_last rfl rfl rfl (o_store_all (cs' := (Rg).map vint) Try.sizeOf101 rfl rfl hb5 (by rw [List.length_map]; assumption) (by rw [List.length_map]; assumption) (all_one_map _ _ (fun _ => rfl)) rfl ?_)
      intro w15 hz15 hb5 hG15
      replace hB := below_upd hB hG15 hsz (by omega)
      replace hsz : w.heap.size ≤ w15.heap.size := by rw [hz15]; exact hsz
      replace hb1 := hb1.upd hG15 (by omega)
      replace hb2 := hb2.upd hG15 (by omega)
      replace hb3 := hb3.upd hG15 (by omega)
      replace hr6 := hr6.stepB hG15 (by omega)
      refine m_nil ?_
      refine r_forget [(3, .pointer _), (4, .pointer _), (6, .pointer _), (7, .pointer _), (10, .int _ _), (12, .slice _ _ _), (13, .int _ _), (14, .int _ _)] ⟨rfl, rfl, rfl, rfl, rfl, rfl, rfl, rfl, trivial⟩ (fun e16 => ?_)
      refine r_region' ?_
      refine l_q (q_move (v := .int _ _) rfl rfl) ?_
      refine l_q (q_assign (v := .int _ _) rfl rfl) ?_
      refine l_nil ?_
      refine r_forget [(3, .pointer _), (4, .pointer _), (6, .pointer _), (7, .pointer _), (8, .int _ _), (12, .slice _ _ _), (13, .int _ _), (14, .int _ _)] ⟨rfl, rfl, rfl, rfl, rfl, rfl, rfl, rfl, trivial⟩ (fun e17 => ?_)
      refine r_inBlock ?_
      refine r_region' ?_
      refine l_q (q_add rfl rfl (by omega) rfl) ?_
      refine l_q (q_move (v := .int _ _) rfl rfl) ?_
      refine l_nil ?_
      refine r_forget [(3, .pointer _), (4, .pointer _), (6, .pointer _), (7, .pointer _), (8, .int _ _), (12, .slice _ _ _), (13, .int _ _), (14, .int _ _)] ⟨rfl, rfl, rfl, rfl, rfl, rfl, rfl, rfl, trivial⟩ (fun e18 => ?_)
      exact ih8 (k + 1, so rd Rg Bg la (s.getD k 0) 41, Rg, s.getD k 0) _ _ ⟨⟨rfl, rfl, rfl, rfl, rfl, rfl, rfl, by first | rfl | exact vint_eq (by omega), trivial⟩, (by omega), (so_len _ _ _ _ _ _), hRg, (so_b hRb2 hBb2 _ _ _), hRb2, (by rw [haf]; exact afL_step (by omega)), hb2, hb5, hb1, hb3, hr6, hsz, hB⟩ (by first | omega | (dsimp only; omega))
    · skip
      try simp only [decide_eq_true_eq, decide_eq_false_iff_not, Bool.not_eq_true', Bool.not_eq_false', Bool.not_not, Bool.not_true, Bool.not_false, Bool.not_eq_true, Bool.not_eq_false, Int.not_lt, Int.not_le, Bool.and_eq_true, Bool.or_eq_true, Bool.and_eq_false_iff, Bool.or_eq_false_iff] at hc9
      refine r_exit rfl ?_
      refine r_seq ?_
      refine r_region' ?_
      refine l_q (q_load_agg (n := 41) Try.isAgg101 Try.sizeOf101 rfl ((hb2.cells0)) (by rw [List.length_map]; assumption) rfl) ?_
      refine l_o (o_store_all (cs' := (Rg).map vint) Try.sizeOf101 rfl rfl hb3 (rfl) (by rw [List.length_map]; assumption) (all_one_map _ _ (fun _ => rfl)) rfl ?_)
      intro w19 hz19 hb3 hG19
      replace hB := below_upd hB hG19 hsz (by omega)
      replace hsz : w.heap.size ≤ w19.heap.size := by rw [hz19]; exact hsz
      replace hb1 := hb1.upd hG19 (by omega)
      replace hb2 := hb2.upd hG19 (by omega)
      replace hb5 := hb5.upd hG19 (by omega)
      replace hr6 := hr6.stepB hG19 (by omega)
      refine l_nil ?_
      refine r_forget [(6, .pointer _)] ⟨rfl, trivial⟩ (fun e20 => ?_)
      refine r_ret_ (vs := [.agg _]) rfl Try.func65 rfl (.nil _) ⟨⟨_, _, rfl, run_loadVarA Try.isAgg101 Try.sizeOf101 (hb3.cells0) (by rw [List.length_map]; assumption)⟩, trivial⟩ ?_
      have hk2 : s.drop k = [] := List.drop_eq_nil_of_le (by omega)
      exact ⟨by rw [haf, hk2]; rfl, Ext.of_below hB⟩
end Go.Proofs.Ytfbjllabgkabkaa
