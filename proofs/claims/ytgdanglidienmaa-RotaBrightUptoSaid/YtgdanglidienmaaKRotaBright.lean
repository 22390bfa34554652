/- Contracts. -/
import Derived.Test.YtgdanglidienmaaRN
set_option linter.unusedVariables false
set_option linter.unusedSimpArgs false
namespace Go.Proofs.Ytgdanglidienmaa
open Go Go.RowKit Go.Gv Go.Fl

theorem tru_nn {G : List RG} {T : List Int} (hrg : ∀ x ∈ G, okRG x = true) (h : Tru G G.length T) (j : Nat) : 0 ≤ T.getD j 0 := by
  by_cases hj : j < T.length
  · exact (tru_bnd hrg h _ (getD_lt hj)).1
  · rw [List.getD_eq_getElem?_getD, List.getElem?_eq_none (by omega)]; exact Int.le_refl _
theorem tru_lo {G : List RG} {xs T : List Int} (hrg : ∀ x ∈ G, okRG x = true) (h : Tru G G.length T) {k : Nat} (hk : k < G.length) : (dimsT xs (G.map (pkB true)) G.length).getD k 0 ≤ (dimsT xs T G.length).getD k 0 := by
  rw [dimsT_at hk, dimsT_at hk]
  refine nowT_mono (fun i hi => hi) (tru_nn hrg h) (k + 1) (fun j hj => ?_)
  rw [rg_map (show j < G.length by omega)]
  exact (h.2 j (by omega)).2
theorem tru_hi {G : List RG} {xs T : List Int} (hrg : ∀ x ∈ G, okRG x = true) (h : Tru G G.length T) {k : Nat} (hk : k < G.length) : (dimsT xs T G.length).getD k 0 ≤ (dimsT xs (G.map (pkB false)) G.length).getD k 0 := by
  rw [dimsT_at hk, dimsT_at hk]
  refine nowT_mono (fun i hi => hi) (fun j => map_nn (fun x hx => (pk_bnd (hi := false) hrg _ (List.mem_map.2 ⟨x, hx, rfl⟩)).1) j) (k + 1) (fun j hj => ?_)
  rw [rg_map (show j < G.length by omega)]
  exact (h.2 j (by omega)).1


theorem rotaBright_ret (fl : Int) (ga : Option Addr) (gc : Nat) (G : List RG) (bt : Int) (wa : Option Addr) (wc : Nat) (ws : List Int) (w : World) (hG : Row w ga G.length gc 2 (G.flatMap RG.enc)) (hGn : G.length ≤ 2097152) (hbt : 0 ≤ bt ∧ bt ≤ 255) (hwd : Row w wa ws.length wc 1 (ws.map (Value.int .u16))) (hwn : ws.length ≤ 2097152) (hwr : ∀ x ∈ ws, 0 ≤ x ∧ x ≤ 65535) : Ret Try.prog 4 [.agg ⟨[vint fl, .slice ga G.length gc]⟩, .int .u8 bt, .slice wa ws.length wc] w (fun v w' => v = .bool true ∧ Ext w w') := by
 have hB := Below.refl w.heap.size w
 have hsz : w.heap.size ≤ w.heap.size := Nat.le_refl _
 refine ret_of_runs (args := [_, _, _]) Try.func4 rfl (Nat.le_of_ble_eq_true rfl) (by kernel_rfl) ?_
 refine r_seq (r_region' ?_)
 refine l_o (o_box rfl rfl rfl ?_)
 intro b1 w1 hzl1 hzr1 _ hb1 hE1
 have hbs_b1 : w.heap.size ≤ b1 := Nat.le_trans hsz hzl1
 replace hB := below_ext hB hE1 hsz
 replace hsz := Nat.le_trans hsz hE1.size
 refine l_q (q_assign (v := .bool _) rfl rfl) ?_
 refine l_nil (r_seq (r_seq (r_region' ?_)))
 refine l_q (q_load_agg (n := 2) Try.isAgg38 Try.sizeOf38 rfl ((hb1.cells' (cs' := [_, _]) 0 2 rfl)) rfl rfl) ?_
 refine l_o (o_call Try.call10 rfl (mfault10_ret fl ga gc G _ (hG.below hB) hGn) rfl ?_)
 rintro _ w2 ⟨rfl, hE2⟩
 replace hB := below_ext hB hE2 hsz
 replace hb1 := hb1.ext hE2
 replace hsz := Nat.le_trans hsz hE2.size
 refine l_q (q_neq rfl rfl rfl) ?_
 refine l_nil ?_
 refine r_cond rfl (fun hc3 => ?_) (fun hc3 => ?_)
 ·
  replace hc3 := df (nt hc3)
  refine r_seq (r_region' ?_)
  refine l_o (o_call Try.call7 rfl (awake_ret _) rfl ?_)
  rintro _ w4 ⟨rfl, hE4⟩
  replace hB := below_ext hB hE4 hsz
  replace hb1 := hb1.ext hE4
  replace hsz := Nat.le_trans hsz hE4.size
  refine l_q (q_assign (v := .bool _) rfl rfl) ?_
  refine l_nil ?_
  refine r_ret_ (vs := [.bool _]) rfl Try.func4 rfl (.nil _) ⟨rfl, trivial⟩ ?_
  exact ⟨rfl, Ext.of_below hB⟩
 ·
  replace hc3 := dt (nf hc3)
  have hm : mfault fl G = 0 := by simpa using hc3
  obtain ⟨⟨hf1, hf2⟩, ⟨hg0, hg8⟩, hrg⟩ := mf_ok hm
  refine r_skip (r_seq ?_)
  obtain ⟨N, hN, hN16, hNn⟩ := two_pow8 hg8
  have hNp : 0 < N := by rw [hNn]; exact Nat.two_pow_pos _
  have hq1 := Int.emod_nonneg bt (show (1 * 2 ^ ((G.length : Int).toNat) : Int) ≠ 0 by omega)
  have hq2 := Int.emod_lt_of_pos bt (show (0 : Int) < 1 * 2 ^ ((G.length : Int).toNat) by omega)
  obtain ⟨m, hm1⟩ : ∃ m : Nat, bt % (1 * 2 ^ ((G.length : Int).toNat)) = (m : Int) := ⟨_, (Int.toNat_of_nonneg hq1).symm⟩
  have hmN : m < 2 ^ G.length := by rw [← hNn]; omega
  have hris := bits_ris hmN (by omega)
  have hm16 : m < 256 := by omega
  refine r_region' ?_
  refine l_q (q_move (v := .int _ _) rfl rfl) ?_
  refine l_q (q_toInt Try.underlying5 Try.underlying3 rfl (by omega) rfl) ?_
  refine l_q (q_fieldAddr (o' := 1) rfl fld38_1 rfl) ?_
  refine l_q (q_load Try.isAgg36 rfl ((hb1.has (o := 1) rfl)) rfl) ?_
  refine l_q (q_len rfl Try.underlying36 rfl rfl) ?_
  refine l_q (q_toUint Try.underlying3 Try.underlying42 rfl (by omega) rfl) ?_
  refine l_q (q_shl rfl rfl (by omega) (by omega) rfl) ?_
  refine l_q (q_rem rfl rfl (by omega) rfl) ?_
  refine l_o (o_call Try.call11 rfl ((by have h := bits_ret m w2 (by omega); rw [← hm1] at h; exact h)) rfl ?_)
  rintro _ w5 ⟨a5_0, c5_0, rfl, ho5_0, hE5⟩
  replace ho5_0 := own_mono ho5_0 (show w.heap.size ≤ _ by omega)
  replace hB := below_ext hB hE5 hsz
  replace hb1 := hb1.ext hE5
  replace hsz := Nat.le_trans hsz hE5.size
  refine l_q (q_assign (v := .slice _ _ _) rfl rfl) ?_
  refine l_nil ?_
  refine r_forget [(2, .slice _ _ _), (3, .pointer _), (7, .slice _ _ _)] ⟨rfl, rfl, rfl, trivial⟩ (fun e6 => ?_)
  refine r_seq (r_region' ?_)
  refine l_q (q_load_agg (n := 2) Try.isAgg38 Try.sizeOf38 rfl ((hb1.cells' (cs' := [_, _]) 0 2 rfl)) rfl rfl) ?_
  refine l_o (o_call Try.call13 rfl (mirror10_ret fl ga gc G _ (hG.below hB) (by omega)) rfl ?_)
  rintro _ w7 ⟨ga7, gc7, rfl, hmr7, hE7⟩
  replace hB := below_ext hB hE7 hsz
  replace hb1 := hb1.ext hE7
  replace ho5_0 := own_ext ho5_0 hE7
  replace hsz := Nat.le_trans hsz hE7.size
  refine l_q (q_move (v := .slice _ _ _) rfl rfl) ?_
  refine l_o (o_call Try.call14 rfl (list10_ret _ _ (bitsL m) _ (Row.of_owns ho5_0) (Nat.le_trans (bits_len _) (by decide))) rfl ?_)
  rintro _ w8 ⟨a8_0, c8_0, rfl, ho8_0, hE8⟩
  replace ho8_0 := own_mono ho8_0 (show w.heap.size ≤ _ by omega)
  replace hB := below_ext hB hE8 hsz
  replace hb1 := hb1.ext hE8
  replace ho5_0 := own_ext ho5_0 hE8
  replace hmr7 := hmr7.ext hE8
  replace hsz := Nat.le_trans hsz hE8.size
  refine l_o (o_call Try.call12 rfl ((by have h := bright_ret fl ga7 gc7 G a8_0 c8_0 (bitsL m) _ hmr7 (by omega) (Row.of_owns ho8_0) (Nat.le_trans (bits_len _) (by decide)); exact h)) rfl ?_)
  rintro _ w9 ⟨ba9, bc9, rfl, hbr9, hE9⟩
  replace hB := below_ext hB hE9 hsz
  replace hb1 := hb1.ext hE9
  replace ho5_0 := own_ext ho5_0 hE9
  replace hmr7 := hmr7.ext hE9
  replace ho8_0 := own_ext ho8_0 hE9
  replace hsz := Nat.le_trans hsz hE9.size
  refine l_q (q_move (v := .tuple _) rfl rfl) ?_
  refine l_q (q_extract (vs := [_, _]) (v := .slice _ _ _) rfl rfl rfl) ?_
  refine l_q (q_extract (vs := [_, _]) (v := .int _ _) rfl rfl rfl) ?_
  refine l_q (q_assign (v := .slice _ _ _) rfl rfl) ?_
  refine l_q (q_assign (v := .int _ _) rfl rfl) ?_
  refine l_nil (r_seq (r_seq ?_))
  have hbl1 := bright_len hm hris
  refine r_region' ?_
  refine l_q (q_move (v := .int _ _) rfl rfl) ?_
  refine l_q (q_neq rfl rfl rfl) ?_
  refine l_q (q_move (v := .bool _) rfl rfl) ?_
  have hk10 : (!decide (((brightM fl G (bitsL m)).1) = 0)) = false := by rw [br_0 hm hris]; rfl
  refine l_part 37 rfl (fun hx => absurd (hk10.symm.trans hx) (by decide)) (fun _ => ?_)
  refine l_q (q_move (v := .slice _ _ _) rfl rfl) ?_
  refine l_q (q_len rfl Try.underlying43 rfl rfl) ?_
  refine l_q (q_fieldAddr (o' := 1) rfl fld38_1 rfl) ?_
  refine l_q (q_load Try.isAgg36 rfl ((hb1.has (o := 1) rfl)) rfl) ?_
  refine l_q (q_len rfl Try.underlying36 rfl rfl) ?_
  refine l_q (q_neq rfl rfl rfl) ?_
  refine l_q (q_pick_f (v := .bool _) rfl rfl rfl) ?_
  refine l_nil ?_
  refine r_forget [(2, .slice _ _ _), (3, .pointer _), (7, .slice _ _ _), (8, .slice _ _ _), (44, .bool _)] ⟨rfl, rfl, rfl, rfl, rfl, trivial⟩ (fun e11 => ?_)
  have hk12 : (!decide ((((brightM fl G (bitsL m)).2).length : Int) = (G.length : Int))) = false := by rw [hbl1]; simp
  refine r_cond_f ((congrArg Value.bool hk12 : Value.bool _ = _)) ?_
  refine r_skip (r_seq ?_)
  refine r_draw ext_refl' ext_trans' [0, 1, 2, 3, 6, 7, 8, 11, 12, 13, 4, 5, 9, 10, 14, 15, 16, 17, 18] [4, 5, 9, 10, 14, 15] 40 (by kernel_rfl) (by kernel_rfl) ?_
  intro w13 _ hE13
  replace hB := below_ext hB hE13 hsz
  replace hb1 := hb1.ext hE13
  replace ho5_0 := own_ext ho5_0 hE13
  replace hmr7 := hmr7.ext hE13
  replace ho8_0 := own_ext ho8_0 hE13
  replace hbr9 := hbr9.ext hE13
  replace hsz := Nat.le_trans hsz hE13.size
  refine m_q rfl rfl (fun w' hC' => q_load_agg (n := 2) Try.isAgg38 Try.sizeOf38 rfl (((hb1.cells' (cs' := [_, _]) 0 2 rfl).ext hC')) rfl rfl) ?_
  refine m_q rfl rfl (fun w' hC' => q_move (v := .slice _ _ _) rfl rfl) ?_
  refine m_q rfl rfl (fun w' hC' => q_load_agg (n := 2) Try.isAgg38 Try.sizeOf38 rfl (((hb1.cells' (cs' := [_, _]) 0 2 rfl).ext hC')) rfl rfl) ?_
  refine m_q rfl rfl (fun w' hC' => q_move (v := .slice _ _ _) rfl rfl) ?_
  refine m_q rfl rfl (fun w' hC' => q_load_agg (n := 2) Try.isAgg38 Try.sizeOf38 rfl (((hb1.cells' (cs' := [_, _]) 0 2 rfl).ext hC')) rfl rfl) ?_
  refine m_q rfl rfl (fun w' hC' => q_move (v := .slice _ _ _) rfl rfl) ?_
  refine m_q rfl rfl (fun w' hC' => q_load_agg (n := 2) Try.isAgg38 Try.sizeOf38 rfl (((hb1.cells' (cs' := [_, _]) 0 2 rfl).ext hC')) rfl rfl) ?_
  refine m_q rfl rfl (fun w' hC' => q_load_agg (n := 2) Try.isAgg38 Try.sizeOf38 rfl (((hb1.cells' (cs' := [_, _]) 0 2 rfl).ext hC')) rfl rfl) ?_
  refine m_q rfl rfl (fun w' hC' => q_move (v := .slice _ _ _) rfl rfl) ?_
  refine m_q rfl rfl (fun w' hC' => q_load_agg (n := 2) Try.isAgg38 Try.sizeOf38 rfl (((hb1.cells' (cs' := [_, _]) 0 2 rfl).ext hC')) rfl rfl) ?_
  refine m_o rfl rfl (o_call Try.call16 rfl (truly_ret fl ga gc G _ _ ws _ (hG.below hB) hGn (hwd.below hB) hwn hwr hrg) rfl ?_)
  rintro _ w14 ⟨ta, tc, T, rfl, hT14, hTr, hE14⟩
  replace hT14 := own_mono hT14 (show w.heap.size ≤ _ by omega)
  refine ⟨hE14, ?_⟩
  replace hB := below_ext hB hE14 hsz
  replace hb1 := hb1.ext hE14
  replace ho5_0 := own_ext ho5_0 hE14
  replace hmr7 := hmr7.ext hE14
  replace ho8_0 := own_ext ho8_0 hE14
  replace hbr9 := hbr9.ext hE14
  replace hsz := Nat.le_trans hsz hE14.size
  have hTl := hTr.1
  refine m_o rfl rfl (o_call Try.call15 rfl (dims10_ret fl ga gc G _ _ (bitsL m) _ _ T _ (hG.below hB) hGn (Row.of_owns ho5_0) (Nat.le_trans (bits_len _) (by decide)) (Row.of_owns hT14) (by omega) (by omega) (tru_bnd hrg hTr)) rfl ?_)
  rintro _ w15 ⟨a15_0, c15_0, rfl, ho15_0, hE15⟩
  replace ho15_0 := own_mono ho15_0 (show w.heap.size ≤ _ by omega)
  refine ⟨hE15, ?_⟩
  replace hB := below_ext hB hE15 hsz
  replace hb1 := hb1.ext hE15
  replace ho5_0 := own_ext ho5_0 hE15
  replace hmr7 := hmr7.ext hE15
  replace ho8_0 := own_ext ho8_0 hE15
  replace hbr9 := hbr9.ext hE15
  replace hT14 := own_ext hT14 hE15
  replace hsz := Nat.le_trans hsz hE15.size
  refine m_o rfl rfl (o_call Try.call17 rfl (ends10_ret fl ga gc G true _ (hG.below hB) hGn) rfl ?_)
  rintro _ w16 ⟨a16_0, c16_0, rfl, ho16_0, hE16⟩
  replace ho16_0 := own_mono ho16_0 (show w.heap.size ≤ _ by omega)
  refine ⟨hE16, ?_⟩
  replace hB := below_ext hB hE16 hsz
  replace hb1 := hb1.ext hE16
  replace ho5_0 := own_ext ho5_0 hE16
  replace hmr7 := hmr7.ext hE16
  replace ho8_0 := own_ext ho8_0 hE16
  replace hbr9 := hbr9.ext hE16
  replace hT14 := own_ext hT14 hE16
  replace ho15_0 := own_ext ho15_0 hE16
  replace hsz := Nat.le_trans hsz hE16.size
  refine m_o rfl rfl (o_call Try.call15 rfl (dims10_ret fl ga gc G _ _ (bitsL m) _ _ (G.map (pkB true)) _ (hG.below hB) hGn (Row.of_owns ho5_0) (Nat.le_trans (bits_len _) (by decide)) (Row.of_owns ho16_0) (by rw [List.length_map]; omega) (by rw [List.length_map]; exact Nat.le_refl _) (pk_bnd hrg)) rfl ?_)
  rintro _ w17 ⟨a17_0, c17_0, rfl, ho17_0, hE17⟩
  replace ho17_0 := own_mono ho17_0 (show w.heap.size ≤ _ by omega)
  refine ⟨hE17, ?_⟩
  replace hB := below_ext hB hE17 hsz
  replace hb1 := hb1.ext hE17
  replace ho5_0 := own_ext ho5_0 hE17
  replace hmr7 := hmr7.ext hE17
  replace ho8_0 := own_ext ho8_0 hE17
  replace hbr9 := hbr9.ext hE17
  replace hT14 := own_ext hT14 hE17
  replace ho15_0 := own_ext ho15_0 hE17
  replace ho16_0 := own_ext ho16_0 hE17
  replace hsz := Nat.le_trans hsz hE17.size
  refine m_o rfl rfl (o_call Try.call17 rfl (ends10_ret fl ga gc G false _ (hG.below hB) hGn) rfl ?_)
  rintro _ w18 ⟨a18_0, c18_0, rfl, ho18_0, hE18⟩
  replace ho18_0 := own_mono ho18_0 (show w.heap.size ≤ _ by omega)
  refine ⟨hE18, ?_⟩
  replace hB := below_ext hB hE18 hsz
  replace hb1 := hb1.ext hE18
  replace ho5_0 := own_ext ho5_0 hE18
  replace hmr7 := hmr7.ext hE18
  replace ho8_0 := own_ext ho8_0 hE18
  replace hbr9 := hbr9.ext hE18
  replace hT14 := own_ext hT14 hE18
  replace ho15_0 := own_ext ho15_0 hE18
  replace ho16_0 := own_ext ho16_0 hE18
  replace ho17_0 := own_ext ho17_0 hE18
  replace hsz := Nat.le_trans hsz hE18.size
  refine m_o rfl rfl (o_call Try.call15 rfl (dims10_ret fl ga gc G _ _ (bitsL m) _ _ (G.map (pkB false)) _ (hG.below hB) hGn (Row.of_owns ho5_0) (Nat.le_trans (bits_len _) (by decide)) (Row.of_owns ho18_0) (by rw [List.length_map]; omega) (by rw [List.length_map]; exact Nat.le_refl _) (pk_bnd hrg)) rfl ?_)
  rintro _ w19 ⟨a19_0, c19_0, rfl, ho19_0, hE19⟩
  replace ho19_0 := own_mono ho19_0 (show w.heap.size ≤ _ by omega)
  refine ⟨hE19, ?_⟩
  replace hB := below_ext hB hE19 hsz
  replace hb1 := hb1.ext hE19
  replace ho5_0 := own_ext ho5_0 hE19
  replace hmr7 := hmr7.ext hE19
  replace ho8_0 := own_ext ho8_0 hE19
  replace hbr9 := hbr9.ext hE19
  replace hT14 := own_ext hT14 hE19
  replace ho15_0 := own_ext ho15_0 hE19
  replace ho16_0 := own_ext ho16_0 hE19
  replace ho17_0 := own_ext ho17_0 hE19
  replace ho18_0 := own_ext ho18_0 hE19
  replace hsz := Nat.le_trans hsz hE19.size
  refine m_q rfl rfl (fun w' hC' => q_assign (v := .slice _ _ _) rfl rfl) ?_
  refine m_q rfl rfl (fun w' hC' => q_assign (v := .slice _ _ _) rfl rfl) ?_
  refine m_q rfl rfl (fun w' hC' => q_assign (v := .slice _ _ _) rfl rfl) ?_
  refine m_nil ?_
  refine r_forget [(8, .slice _ _ _), (10, .slice _ _ _), (11, .slice _ _ _), (12, .slice _ _ _)] ⟨rfl, rfl, rfl, rfl, trivial⟩ (fun e20 => ?_)
  refine r_seq (r_seq (r_region' ?_))
  refine l_q (q_assign (v := .int _ _) rfl rfl) ?_
  refine l_nil (r_block ?_)
  refine r_rounds (α := Nat) (fun i e wl => Knows e [(8, .slice ba9 (((brightM fl G (bitsL m)).2).length) bc9), (10, .slice a15_0 ((dimsT (bitsL m) T G.length).length) c15_0), (11, .slice a17_0 ((dimsT (bitsL m) (G.map (pkB true)) G.length).length) c17_0), (12, .slice a19_0 ((dimsT (bitsL m) (G.map (pkB false)) G.length).length) c19_0), (13, vint (i : Int))] ∧ (i ≤ G.length) ∧ (Blk wl b1 [vint fl, .slice ga G.length gc]) ∧ (wl.ownsRow w.heap.size 3 1 (.slice a5_0 ((bitsL m).length) c5_0) ((bitsL m).length) ((bitsL m).map vint)) ∧ (Row wl ga7 G.length gc7 2 (G.flatMap RG.enc)) ∧ (wl.ownsRow w.heap.size 3 1 (.slice a8_0 (((bitsL m)).length) c8_0) (((bitsL m)).length) (((bitsL m)).map vint)) ∧ (Row wl ba9 (((brightM fl G (bitsL m)).2).length) bc9 2 (((brightM fl G (bitsL m)).2).flatMap RG.enc)) ∧ (wl.ownsRow w.heap.size 3 1 (.slice ta ((T).length) tc) ((T).length) ((T).map vint)) ∧ (wl.ownsRow w.heap.size 3 1 (.slice a15_0 ((dimsT (bitsL m) T G.length).length) c15_0) ((dimsT (bitsL m) T G.length).length) ((dimsT (bitsL m) T G.length).map vint)) ∧ (wl.ownsRow w.heap.size 3 1 (.slice a16_0 ((G.map (pkB true)).length) c16_0) ((G.map (pkB true)).length) ((G.map (pkB true)).map vint)) ∧ (wl.ownsRow w.heap.size 3 1 (.slice a17_0 ((dimsT (bitsL m) (G.map (pkB true)) G.length).length) c17_0) ((dimsT (bitsL m) (G.map (pkB true)) G.length).length) ((dimsT (bitsL m) (G.map (pkB true)) G.length).map vint)) ∧ (wl.ownsRow w.heap.size 3 1 (.slice a18_0 ((G.map (pkB false)).length) c18_0) ((G.map (pkB false)).length) ((G.map (pkB false)).map vint)) ∧ (wl.ownsRow w.heap.size 3 1 (.slice a19_0 ((dimsT (bitsL m) (G.map (pkB false)) G.length).length) c19_0) ((dimsT (bitsL m) (G.map (pkB false)) G.length).length) ((dimsT (bitsL m) (G.map (pkB false)) G.length).map vint)) ∧ (w.heap.size ≤ wl.heap.size) ∧ (Below w.heap.size w wl)) (fun i => G.length - i) 0 ?_ ?_
  ·
   exact ⟨⟨rfl, rfl, rfl, rfl, rfl, trivial⟩, (Nat.zero_le _), hb1, ho5_0, hmr7, ho8_0, hbr9, hT14, ho15_0, ho16_0, ho17_0, ho18_0, ho19_0, hsz, hB⟩
  ·
   rintro i el21 wl21 ⟨hkn, hki, hb1, ho5_0, hmr7, ho8_0, hbr9, hT14, ho15_0, ho16_0, ho17_0, ho18_0, ho19_0, hsz, hB⟩ ih21
   obtain ⟨e21, rfl⟩ := knows_env hkn
   refine r_seq (r_seq (r_region' ?_))
   refine l_q (q_move (v := .int _ _) rfl rfl) ?_
   refine l_q (q_move (v := .slice _ _ _) rfl rfl) ?_
   refine l_q (q_len rfl Try.underlying43 rfl rfl) ?_
   refine l_q (q_lss rfl rfl rfl) ?_
   refine l_nil ?_
   refine r_cond rfl (fun hc22 => ?_) (fun hc22 => ?_)
   ·
    replace hc22 := dt hc22
    have hiG : i < G.length := by omega
    refine r_skip (r_seq (r_block (r_seq ?_)))
    refine r_draw ext_refl' ext_trans' [0, 1, 2, 3, 4, 5, 6, 7, 8, 9, 10, 11, 12, 13, 14, 15, 16, 17, 18, 19, 20, 21, 22, 23, 24, 25, 26, 27, 28, 29, 30, 31, 32, 33, 34, 35, 36, 37, 38, 39, 40, 41, 42, 43, 44, 45] [] 60 (by kernel_rfl) (by kernel_rfl) ?_
    intro w23 _ hE23
    replace hB := below_ext hB hE23 hsz
    replace hb1 := hb1.ext hE23
    replace ho5_0 := own_ext ho5_0 hE23
    replace hmr7 := hmr7.ext hE23
    replace ho8_0 := own_ext ho8_0 hE23
    replace hbr9 := hbr9.ext hE23
    replace hT14 := own_ext hT14 hE23
    replace ho15_0 := own_ext ho15_0 hE23
    replace ho16_0 := own_ext ho16_0 hE23
    replace ho17_0 := own_ext ho17_0 hE23
    replace ho18_0 := own_ext ho18_0 hE23
    replace ho19_0 := own_ext ho19_0 hE23
    replace hsz := Nat.le_trans hsz hE23.size
    refine m_q rfl rfl (fun w' hC' => q_move (v := .slice _ _ _) rfl rfl) ?_
    refine m_q rfl rfl (fun w' hC' => q_move (v := .int _ _) rfl rfl) ?_
    obtain ⟨b24, o24, ha24, hh24⟩ := (Row.of_owns ho15_0).at1 i ((dimsT (bitsL m) T G.length).getD i 0) (getD_some (by rw [dimsT_len]; omega))
    refine m_q rfl rfl (fun w' hC' => q_indexAddr1 Try.underlying22 Try.sizeOf3 rfl ha24 rfl (by rw [dimsT_len]; omega) rfl) ?_
    refine m_q rfl rfl (fun w' hC' => q_load Try.isAgg3 rfl ((hh24.ext hC')) rfl) ?_
    refine m_q rfl rfl (fun w' hC' => q_move (v := .slice _ _ _) rfl rfl) ?_
    refine m_q rfl rfl (fun w' hC' => q_move (v := .int _ _) rfl rfl) ?_
    obtain ⟨b25, o25, ha25, hh25⟩ := hbr9.at (by decide) i (by omega)
    refine m_q rfl rfl (fun w' hC' => q_indexAddr Try.underlying43 Try.sizeOf55 rfl ha25 rfl (by omega) rfl) ?_
    refine m_q rfl rfl (fun w' hC' => q_fieldAddr (o' := 0) rfl fld55_0 rfl) ?_
    refine m_q rfl rfl (fun w' hC' => q_load Try.isAgg3 rfl ((((cells_cast (wide_at RG.len rg0 _ _ (by omega)) hh25) 0 _ rfl).ext hC')) rfl) ?_
    refine m_q rfl rfl (fun w' hC' => q_lss rfl rfl rfl) ?_
    refine m_q rfl rfl (fun w' hC' => q_move (v := .bool _) rfl rfl) ?_
    have hk26 : (decide (((dimsT (bitsL m) T G.length).getD i 0) < ((((brightM fl G (bitsL m)).2).getD i rg0).lo))) = false := decide_eq_false (by have := tru_lo (xs := bitsL m) hrg hTr hiG; rw [bright_lo hm hris hiG]; omega)
    refine m_part 77 rfl (fun hx => absurd (hk26.symm.trans hx) (by decide)) (fun _ => ?_)
    refine m_q rfl rfl (fun w' hC' => q_move (v := .slice _ _ _) rfl rfl) ?_
    refine m_q rfl rfl (fun w' hC' => q_move (v := .int _ _) rfl rfl) ?_
    obtain ⟨b27, o27, ha27, hh27⟩ := (Row.of_owns ho15_0).at1 i ((dimsT (bitsL m) T G.length).getD i 0) (getD_some (by rw [dimsT_len]; omega))
    refine m_q rfl rfl (fun w' hC' => q_indexAddr1 Try.underlying22 Try.sizeOf3 rfl ha27 rfl (by rw [dimsT_len]; omega) rfl) ?_
    refine m_q rfl rfl (fun w' hC' => q_load Try.isAgg3 rfl ((hh27.ext hC')) rfl) ?_
    refine m_q rfl rfl (fun w' hC' => q_move (v := .slice _ _ _) rfl rfl) ?_
    refine m_q rfl rfl (fun w' hC' => q_move (v := .int _ _) rfl rfl) ?_
    obtain ⟨b28, o28, ha28, hh28⟩ := hbr9.at (by decide) i (by omega)
    refine m_q rfl rfl (fun w' hC' => q_indexAddr Try.underlying43 Try.sizeOf55 rfl ha28 rfl (by omega) rfl) ?_
    refine m_q rfl rfl (fun w' hC' => q_fieldAddr (o' := 1) rfl fld55_1 rfl) ?_
    refine m_q rfl rfl (fun w' hC' => q_load Try.isAgg3 rfl ((((cells_cast (wide_at RG.len rg0 _ _ (by omega)) hh28) 1 _ rfl).ext hC')) rfl) ?_
    refine m_q rfl rfl (fun w' hC' => q_gtr rfl rfl rfl) ?_
    refine m_q rfl rfl (fun w' hC' => q_pick_f (v := .bool _) rfl rfl rfl) ?_
    refine m_q rfl rfl (fun w' hC' => q_move (v := .bool _) rfl rfl) ?_
    have hk29 : (decide (((((brightM fl G (bitsL m)).2).getD i rg0).hi) < ((dimsT (bitsL m) T G.length).getD i 0))) = false := decide_eq_false (by have := tru_hi (xs := bitsL m) hrg hTr hiG; rw [bright_hi hm hris hiG]; omega)
    refine m_part 89 rfl (fun hx => absurd (hk29.symm.trans hx) (by decide)) (fun _ => ?_)
    refine m_q rfl rfl (fun w' hC' => q_move (v := .slice _ _ _) rfl rfl) ?_
    refine m_q rfl rfl (fun w' hC' => q_move (v := .int _ _) rfl rfl) ?_
    obtain ⟨b30, o30, ha30, hh30⟩ := (Row.of_owns ho17_0).at1 i ((dimsT (bitsL m) (G.map (pkB true)) G.length).getD i 0) (getD_some (by rw [dimsT_len]; omega))
    refine m_q rfl rfl (fun w' hC' => q_indexAddr1 Try.underlying22 Try.sizeOf3 rfl ha30 rfl (by rw [dimsT_len]; omega) rfl) ?_
    refine m_q rfl rfl (fun w' hC' => q_load Try.isAgg3 rfl ((hh30.ext hC')) rfl) ?_
    refine m_q rfl rfl (fun w' hC' => q_move (v := .slice _ _ _) rfl rfl) ?_
    refine m_q rfl rfl (fun w' hC' => q_move (v := .int _ _) rfl rfl) ?_
    obtain ⟨b31, o31, ha31, hh31⟩ := hbr9.at (by decide) i (by omega)
    refine m_q rfl rfl (fun w' hC' => q_indexAddr Try.underlying43 Try.sizeOf55 rfl ha31 rfl (by omega) rfl) ?_
    refine m_q rfl rfl (fun w' hC' => q_fieldAddr (o' := 0) rfl fld55_0 rfl) ?_
    refine m_q rfl rfl (fun w' hC' => q_load Try.isAgg3 rfl ((((cells_cast (wide_at RG.len rg0 _ _ (by omega)) hh31) 0 _ rfl).ext hC')) rfl) ?_
    refine m_q rfl rfl (fun w' hC' => q_neq rfl rfl rfl) ?_
    refine m_q rfl rfl (fun w' hC' => q_pick_f (v := .bool _) rfl rfl rfl) ?_
    refine m_q rfl rfl (fun w' hC' => q_move (v := .bool _) rfl rfl) ?_
    have hk32 : (!decide (((dimsT (bitsL m) (G.map (pkB true)) G.length).getD i 0) = ((((brightM fl G (bitsL m)).2).getD i rg0).lo))) = false := by rw [bright_lo hm hris hiG]; simp
    refine m_part 101 rfl (fun hx => absurd (hk32.symm.trans hx) (by decide)) (fun _ => ?_)
    refine m_q rfl rfl (fun w' hC' => q_move (v := .slice _ _ _) rfl rfl) ?_
    refine m_q rfl rfl (fun w' hC' => q_move (v := .int _ _) rfl rfl) ?_
    obtain ⟨b33, o33, ha33, hh33⟩ := (Row.of_owns ho19_0).at1 i ((dimsT (bitsL m) (G.map (pkB false)) G.length).getD i 0) (getD_some (by rw [dimsT_len]; omega))
    refine m_q rfl rfl (fun w' hC' => q_indexAddr1 Try.underlying22 Try.sizeOf3 rfl ha33 rfl (by rw [dimsT_len]; omega) rfl) ?_
    refine m_q rfl rfl (fun w' hC' => q_load Try.isAgg3 rfl ((hh33.ext hC')) rfl) ?_
    refine m_q rfl rfl (fun w' hC' => q_move (v := .slice _ _ _) rfl rfl) ?_
    refine m_q rfl rfl (fun w' hC' => q_move (v := .int _ _) rfl rfl) ?_
    obtain ⟨b34, o34, ha34, hh34⟩ := hbr9.at (by decide) i (by omega)
    refine m_q rfl rfl (fun w' hC' => q_indexAddr Try.underlying43 Try.sizeOf55 rfl ha34 rfl (by omega) rfl) ?_
    refine m_q rfl rfl (fun w' hC' => q_fieldAddr (o' := 1) rfl fld55_1 rfl) ?_
    refine m_q rfl rfl (fun w' hC' => q_load Try.isAgg3 rfl ((((cells_cast (wide_at RG.len rg0 _ _ (by omega)) hh34) 1 _ rfl).ext hC')) rfl) ?_
    refine m_q rfl rfl (fun w' hC' => q_neq rfl rfl rfl) ?_
    refine m_q rfl rfl (fun w' hC' => q_pick_f (v := .bool _) rfl rfl rfl) ?_
    refine m_nil ?_
    refine r_forget [(8, .slice _ _ _), (10, .slice _ _ _), (11, .slice _ _ _), (12, .slice _ _ _), (13, .int _ _), (112, .bool _)] ⟨rfl, rfl, rfl, rfl, rfl, rfl, trivial⟩ (fun e35 => ?_)
    have hk36 : (!decide (((dimsT (bitsL m) (G.map (pkB false)) G.length).getD i 0) = ((((brightM fl G (bitsL m)).2).getD i rg0).hi))) = false := by rw [bright_hi hm hris hiG]; simp
    refine r_cond_f ((congrArg Value.bool hk36 : Value.bool _ = _)) ?_
    refine r_skip (r_inBlock (r_region' ?_))
    refine l_q (q_move (v := .int _ _) rfl rfl) ?_
    refine l_q (q_add rfl rfl (by omega) rfl) ?_
    refine l_q (q_assign (v := .int _ _) rfl rfl) ?_
    refine l_nil ?_
    exact ih21 (i + 1) _ _ ⟨⟨rfl, rfl, rfl, rfl, by first | rfl | exact vint_eq (by omega), trivial⟩, (by omega), hb1, ho5_0, hmr7, ho8_0, hbr9, hT14, ho15_0, ho16_0, ho17_0, ho18_0, ho19_0, hsz, hB⟩ (by first | omega | (dsimp only; omega))
   ·
    replace hc22 := dlt hc22
    refine r_exit rfl ?_
    refine r_seq (r_region' ?_)
    refine l_o (o_call Try.call7 rfl (awake_ret _) rfl ?_)
    rintro _ w37 ⟨rfl, hE37⟩
    replace hB := below_ext hB hE37 hsz
    replace hsz := Nat.le_trans hsz hE37.size
    refine l_q (q_assign (v := .bool _) rfl rfl) ?_
    refine l_nil ?_
    refine r_forget [(6, .bool _)] ⟨rfl, trivial⟩ (fun e38 => ?_)
    refine r_ret_ (vs := [.bool _]) rfl Try.func4 rfl (.nil _) ⟨rfl, trivial⟩ ?_
    exact ⟨rfl, Ext.of_below hB⟩
end Go.Proofs.Ytgdanglidienmaa
