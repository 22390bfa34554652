/- Contracts. -/
import Derived.Test.YtgdanglidienmaaGreatRT
set_option linter.unusedVariables false
set_option linter.unusedSimpArgs false
namespace Go.Proofs.YtgdanglidienmaaGreat
open Go Go.RowKit Go.Gv Go.Fl


theorem rotaSafe_ret (na : Option Addr) (nc : Nat) (nd : List Int) (pa : Option Addr) (pc : Nat) (pl : List PV) (ca : Option Addr) (cc : Nat) (L : List SV) (w : World) (hpo : PoAt w na nc nd pa pc pl ca cc L) (hbg : PoBig nd pl L) : Ret Tryz.prog 12 [.agg ⟨[.slice na nd.length nc, .slice pa pl.length pc, .slice ca L.length cc]⟩] w (fun v w' => v = .bool true ∧ Ext w w') := by
 obtain ⟨hnl, hpll, hLl, hLs, hPb⟩ := id hbg
 have hB := Below.refl w.heap.size w
 have hsz : w.heap.size ≤ w.heap.size := Nat.le_refl _
 refine ret_of_runs (args := [_]) Tryz.func12 rfl (Nat.le_of_ble_eq_true rfl) (by kernel_rfl) ?_
 refine r_seq (r_region' ?_)
 refine l_o (o_box rfl rfl rfl ?_)
 intro b1 w1 hzl1 hzr1 _ hb1 hE1
 have hbs_b1 : w.heap.size ≤ b1 := Nat.le_trans hsz hzl1
 replace hB := below_ext hB hE1 hsz
 replace hsz := Nat.le_trans hsz hE1.size
 refine l_q (q_assign (v := .bool _) rfl rfl) ?_
 refine l_nil (r_seq (r_seq (r_region' ?_)))
 refine l_q (q_load_agg (n := 3) Tryz.isAgg26 Tryz.sizeOf26 rfl ((hb1.cells' (cs' := [_, _, _]) 0 3 rfl)) rfl rfl) ?_
 refine l_o (o_call Tryz.call40 rfl (ready10_ret na nc nd pa pc pl ca cc L _ (hpo.below hB) hbg) rfl ?_)
 rintro _ w2 ⟨bb2, rfl, hrdy2, hE2⟩
 replace hB := below_ext hB hE2 hsz
 replace hb1 := hb1.ext hE2
 replace hsz := Nat.le_trans hsz hE2.size
 have hrdy := hrdy2
 refine l_q (q_not rfl rfl) ?_
 refine l_nil ?_
 refine r_cond rfl (fun hc3 => ?_) (fun hc3 => ?_)
 ·
  replace hc3 := nt hc3
  refine r_seq (r_region' ?_)
  refine l_o (o_call Tryz.call17 rfl (awake_ret _) rfl ?_)
  rintro _ w4 ⟨rfl, hE4⟩
  replace hB := below_ext hB hE4 hsz
  replace hb1 := hb1.ext hE4
  replace hsz := Nat.le_trans hsz hE4.size
  refine l_q (q_assign (v := .bool _) rfl rfl) ?_
  refine l_nil ?_
  refine r_ret_ (vs := [.bool _]) rfl Tryz.func12 rfl (.nil _) ⟨rfl, trivial⟩ ?_
  exact ⟨rfl, Ext.of_below hB⟩
 ·
  replace hc3 := nf hc3
  have hok := hrdy hc3
  obtain ⟨⟨hn1, hn5⟩, ⟨hp1, hp4⟩, hL4, hnn, hpp, hLL⟩ := po_ok hok
  have hn20 := bst_bnd hok
  refine r_skip (r_seq (r_region' ?_))
  refine l_q (q_load_agg (n := 3) Tryz.isAgg26 Tryz.sizeOf26 rfl ((hb1.cells' (cs' := [_, _, _]) 0 3 rfl)) rfl rfl) ?_
  refine l_o (o_call Tryz.call19 rfl (post10_ret na nc nd pa pc pl ca cc L _ (hpo.below hB) hbg) rfl ?_)
  rintro _ w5 ⟨pna5, pnc5, ppa5, ppc5, ppl5, pca5, pcc5, pL5, rfl, hpo5, hpp5, hpL5, hE5⟩
  replace hB := below_ext hB hE5 hsz
  replace hb1 := hb1.ext hE5
  replace hsz := Nat.le_trans hsz hE5.size
  have hbg5 := post_big hpp5 hpL5 hbg
  refine l_o (o_call Tryz.call46 rfl ((by have h := best_ret pna5 pnc5 nd ppa5 ppc5 ppl5 pca5 pcc5 pL5 _ hpo5 hbg5.1 hbg5.2.1 hbg5.2.2.1 hbg5.2.2.2.1; rw [best_pn hpp5 hpL5] at h; exact h)) rfl ?_)
  rintro _ w6 ⟨ra6, rc6, R6, rfl, hRo6, hRs6, hRm6, hE6⟩
  replace hB := below_ext hB hE6 hsz
  replace hb1 := hb1.ext hE6
  replace hpo5 := hpo5.ext hE6
  replace hsz := Nat.le_trans hsz hE6.size
  have hR6 := Row.of_owns hRo6
  have hRr6 := hRs6.rows
  refine l_q (q_move (v := .tuple _) rfl rfl) ?_
  refine l_q (q_extract (vs := [_, _, _]) (v := .slice _ _ _) rfl rfl rfl) ?_
  refine l_q (q_extract (vs := [_, _, _]) (v := .int _ _) rfl rfl rfl) ?_
  refine l_q (q_extract (vs := [_, _, _]) (v := .int _ _) rfl rfl rfl) ?_
  refine l_q (q_assign (v := .slice _ _ _) rfl rfl) ?_
  refine l_q (q_assign (v := .int _ _) rfl rfl) ?_
  refine l_q (q_assign (v := .int _ _) rfl rfl) ?_
  refine l_nil ?_
  refine r_forget [(1, .pointer _), (3, .slice _ _ _), (4, .int _ _), (5, .int _ _)] ⟨rfl, rfl, rfl, rfl, trivial⟩ (fun e7 => ?_)
  refine r_seq (r_region' ?_)
  refine l_q (q_load_agg (n := 3) Tryz.isAgg26 Tryz.sizeOf26 rfl ((hb1.cells' (cs' := [_, _, _]) 0 3 rfl)) rfl rfl) ?_
  refine l_o (o_call Tryz.call19 rfl (post10_ret na nc nd pa pc pl ca cc L _ (hpo.below hB) hbg) rfl ?_)
  rintro _ w8 ⟨pna8, pnc8, ppa8, ppc8, ppl8, pca8, pcc8, pL8, rfl, hpo8, hpp8, hpL8, hE8⟩
  replace hB := below_ext hB hE8 hsz
  replace hb1 := hb1.ext hE8
  replace hpo5 := hpo5.ext hE8
  replace hR6 := hR6.ext hE8
  replace hRr6 := hRr6.ext hE8
  replace hsz := Nat.le_trans hsz hE8.size
  have hbg8 := post_big hpp8 hpL8 hbg
  refine l_o (o_call Tryz.call28 rfl ((by have h := enough_ret pna8 pnc8 nd ppa8 ppc8 ppl8 pca8 pcc8 pL8 _ hpo8 hbg8.1 hbg8.2.1 hbg8.2.2.1 hbg8.2.2.2.1; rw [enough_pn hpp8 hpL8] at h; exact h)) rfl ?_)
  rintro _ w9 ⟨ea9, ec9, rfl, he9, hE9⟩
  replace hB := below_ext hB hE9 hsz
  replace hb1 := hb1.ext hE9
  replace hpo5 := hpo5.ext hE9
  replace hR6 := hR6.ext hE9
  replace hRr6 := hRr6.ext hE9
  replace hpo8 := hpo8.ext hE9
  replace hsz := Nat.le_trans hsz hE9.size
  refine l_q (q_move (v := .tuple _) rfl rfl) ?_
  refine l_q (q_extract (vs := [_, _]) (v := .slice _ _ _) rfl rfl rfl) ?_
  refine l_q (q_extract (vs := [_, _]) (v := .int _ _) rfl rfl rfl) ?_
  refine l_q (q_assign (v := .slice _ _ _) rfl rfl) ?_
  refine l_q (q_assign (v := .int _ _) rfl rfl) ?_
  refine l_nil (r_seq (r_seq (r_region' ?_)))
  refine l_q (q_move (v := .int _ _) rfl rfl) ?_
  refine l_q (q_neq rfl rfl rfl) ?_
  refine l_nil ?_
  refine r_cond rfl (fun hc10 => ?_) (fun hc10 => ?_)
  ·
   replace hc10 := df (nt hc10)
   have hb := bst_no hok hc10
   refine r_seq (r_region' ?_)
   refine l_q (q_move (v := .int _ _) rfl rfl) ?_
   refine l_q (q_eql rfl rfl rfl) ?_
   refine l_q (q_move (v := .bool _) rfl rfl) ?_
   have hk11 : (decide (((bestR nd pl L).2.2) = 10)) = true := decide_eq_true (by rw [hb.1])
   refine l_part 34 rfl (fun _ => ?_) (fun hx => absurd (hk11.symm.trans hx) (by decide))
   refine l_q (q_move (v := .int _ _) rfl rfl) ?_
   refine l_q (q_move (v := .int _ _) rfl rfl) ?_
   refine l_q (q_eql rfl rfl rfl) ?_
   refine l_q (q_pick_t (v := .bool _) rfl rfl rfl) ?_
   refine l_q (q_move (v := .bool _) rfl rfl) ?_
   have hk12 : (decide (((enoughR nd pl L).1) = ((bestR nd pl L).2.2))) = true := decide_eq_true (by rw [hb.1, hb.2])
   refine l_part 39 rfl (fun _ => ?_) (fun hx => absurd (hk12.symm.trans hx) (by decide))
   refine l_q (q_move (v := .slice _ _ _) rfl rfl) ?_
   refine l_q (q_len rfl Tryz.underlying22 rfl rfl) ?_
   refine l_q (q_eql rfl rfl rfl) ?_
   refine l_q (q_pick_t (v := .bool _) rfl rfl rfl) ?_
   refine l_q (q_move (v := .bool _) rfl rfl) ?_
   have hk13 : (decide ((((enoughR nd pl L).2).length : Int) = 0)) = true := by rw [hb.2]; rfl
   refine l_part 44 rfl (fun _ => ?_) (fun hx => absurd (hk13.symm.trans hx) (by decide))
   refine l_o (o_call Tryz.call17 rfl (awake_ret _) rfl ?_)
   rintro _ w14 ⟨rfl, hE14⟩
   replace hB := below_ext hB hE14 hsz
   replace hb1 := hb1.ext hE14
   replace hpo5 := hpo5.ext hE14
   replace hR6 := hR6.ext hE14
   replace hRr6 := hRr6.ext hE14
   replace hpo8 := hpo8.ext hE14
   replace he9 := he9.ext hE14
   replace hsz := Nat.le_trans hsz hE14.size
   refine l_q (q_pick_t (v := .bool _) rfl rfl rfl) ?_
   refine l_q (q_assign (v := .bool _) rfl rfl) ?_
   refine l_nil ?_
   refine r_forget [(2, .bool _)] ⟨rfl, trivial⟩ (fun e15 => ?_)
   refine r_ret_ (vs := [.bool _]) rfl Tryz.func12 rfl (.nil _) ⟨rfl, trivial⟩ ?_
   exact ⟨rfl, Ext.of_below hB⟩
  ·
   replace hc10 := dt (nf hc10)
   have hb0 : (bestR nd pl L).2.2 = 0 := hc10
   obtain ⟨hI, hcT, hdT, _⟩ := bst_yes hok hb0
   have he0 := bst_en hok hb0
   have hRs := rows_small hRm6 (bst_sm hok)
   rw [← hRm6] at hI hcT hdT
   have hp := plan_zero hok hI
   have hsf := (chn_safe (C := (L.map (·.xs))) hok hI).trans hcT
   have hRn : R6.length = nd.length := by have := hI.1; rwa [List.length_map] at this
   have hfl : (failsX nd (planP (po nd pl L) (R6.map (·.xs))) (R6.map (·.xs)) (L.map (·.xs))).2.length = L.length + 1 := by rw [fails_len hp, List.length_map]
   refine r_skip (r_seq (r_seq (r_region' ?_)))
   refine l_q (q_move (v := .int _ _) rfl rfl) ?_
   refine l_q (q_neq rfl rfl rfl) ?_
   refine l_q (q_move (v := .bool _) rfl rfl) ?_
   have hk16 : (!decide (((enoughR nd pl L).1) = 0)) = false := by rw [he0.1]; rfl
   refine l_part 49 rfl (fun hx => absurd (hk16.symm.trans hx) (by decide)) (fun _ => ?_)
   refine l_q (q_move (v := .slice _ _ _) rfl rfl) ?_
   refine l_q (q_fieldAddr (o' := 1) rfl fld26_1 rfl) ?_
   refine l_q (q_load Tryz.isAgg23 rfl ((hb1.has (o := 1) rfl)) rfl) ?_
   refine l_q (q_len rfl Tryz.underlying23 rfl rfl) ?_
   refine l_o (o_call Tryz.call37 rfl (rising_ret _ _ ((enoughR nd pl L).2) _ _ he9 (Nat.le_trans (en_len hok) (by decide)) (by omega)) rfl ?_)
   rintro _ w17 ⟨rfl, hE17⟩
   replace hB := below_ext hB hE17 hsz
   replace hb1 := hb1.ext hE17
   replace hpo5 := hpo5.ext hE17
   replace hR6 := hR6.ext hE17
   replace hRr6 := hRr6.ext hE17
   replace hpo8 := hpo8.ext hE17
   replace he9 := he9.ext hE17
   replace hsz := Nat.le_trans hsz hE17.size
   refine l_q (q_not rfl rfl) ?_
   refine l_q (q_pick_f (v := .bool _) rfl rfl rfl) ?_
   refine l_q (q_move (v := .bool _) rfl rfl) ?_
   have hk18 : (!(risB ((enoughR nd pl L).2) (pl.length : Int))) = false := by rw [he0.2]; rfl
   refine l_part 57 rfl (fun hx => absurd (hk18.symm.trans hx) (by decide)) (fun _ => ?_)
   refine l_q (q_load_agg (n := 3) Tryz.isAgg26 Tryz.sizeOf26 rfl ((hb1.cells' (cs' := [_, _, _]) 0 3 rfl)) rfl rfl) ?_
   refine l_q (q_move (v := .slice _ _ _) rfl rfl) ?_
   refine l_o (o_call Tryz.call56 rfl (isRota_ret na nc nd pa pc pl ca cc L _ _ R6 _ (hpo.below hB) hnl hpll hLl hR6 hRr6 hRs.1 hRs.2) rfl ?_)
   rintro _ w19 ⟨rfl, hE19⟩
   replace hB := below_ext hB hE19 hsz
   replace hb1 := hb1.ext hE19
   replace hpo5 := hpo5.ext hE19
   replace hR6 := hR6.ext hE19
   replace hRr6 := hRr6.ext hE19
   replace hpo8 := hpo8.ext hE19
   replace he9 := he9.ext hE19
   replace hsz := Nat.le_trans hsz hE19.size
   refine l_q (q_not rfl rfl) ?_
   refine l_q (q_pick_f (v := .bool _) rfl rfl rfl) ?_
   refine l_q (q_move (v := .bool _) rfl rfl) ?_
   have hk20 : (!(isRB nd pl.length (R6.map (·.xs)))) = false := by rw [isRB_iff.2 hI]; rfl
   refine l_part 63 rfl (fun hx => absurd (hk20.symm.trans hx) (by decide)) (fun _ => ?_)
   refine l_q (q_load_agg (n := 3) Tryz.isAgg26 Tryz.sizeOf26 rfl ((hb1.cells' (cs' := [_, _, _]) 0 3 rfl)) rfl rfl) ?_
   refine l_q (q_move (v := .slice _ _ _) rfl rfl) ?_
   refine l_o (o_call Tryz.call52 rfl (safe10_ret na nc nd pa pc pl ca cc L _ _ R6 _ (hpo.below hB) hok hR6 hRr6 hRs.1 hRs.2 (by omega) (plan_on hp)) rfl ?_)
   rintro _ w21 ⟨rfl, hE21⟩
   replace hB := below_ext hB hE21 hsz
   replace hb1 := hb1.ext hE21
   replace hpo5 := hpo5.ext hE21
   replace hR6 := hR6.ext hE21
   replace hRr6 := hRr6.ext hE21
   replace hpo8 := hpo8.ext hE21
   replace he9 := he9.ext hE21
   replace hsz := Nat.le_trans hsz hE21.size
   refine l_q (q_not rfl rfl) ?_
   refine l_q (q_pick_f (v := .bool _) rfl rfl rfl) ?_
   refine l_q (q_move (v := .bool _) rfl rfl) ?_
   have hk22 : (!(safeX nd pl (L.map (·.xs)) (R6.map (·.xs)))) = false := by rw [hsf]; rfl
   refine l_part 69 rfl (fun hx => absurd (hk22.symm.trans hx) (by decide)) (fun _ => ?_)
   refine l_q (q_move (v := .slice _ _ _) rfl rfl) ?_
   refine l_o (o_call Tryz.call53 rfl (duties10_ret _ _ R6 _ hR6 hRr6 hRs.1 hRs.2) rfl ?_)
   rintro _ w23 ⟨rfl, hE23⟩
   replace hB := below_ext hB hE23 hsz
   replace hb1 := hb1.ext hE23
   replace hpo5 := hpo5.ext hE23
   replace hR6 := hR6.ext hE23
   replace hRr6 := hRr6.ext hE23
   replace hpo8 := hpo8.ext hE23
   replace he9 := he9.ext hE23
   replace hsz := Nat.le_trans hsz hE23.size
   refine l_q (q_move (v := .int _ _) rfl rfl) ?_
   refine l_q (q_neq rfl rfl rfl) ?_
   refine l_q (q_pick_f (v := .bool _) rfl rfl rfl) ?_
   refine l_nil ?_
   refine r_forget [(1, .pointer _), (3, .slice _ _ _), (4, .int _ _), (74, .bool _)] ⟨rfl, rfl, rfl, rfl, trivial⟩ (fun e24 => ?_)
   have hk25 : (!decide ((dut (R6.map (·.xs))) = ((bestR nd pl L).2.1))) = false := by rw [hdT]; simp
   refine r_cond_f ((congrArg Value.bool hk25 : Value.bool _ = _)) ?_
   refine r_skip (r_seq (r_region' ?_))
   refine l_q (q_load_agg (n := 3) Tryz.isAgg26 Tryz.sizeOf26 rfl ((hb1.cells' (cs' := [_, _, _]) 0 3 rfl)) rfl rfl) ?_
   refine l_o (o_call Tryz.call19 rfl (post10_ret na nc nd pa pc pl ca cc L _ (hpo.below hB) hbg) rfl ?_)
   rintro _ w26 ⟨pna26, pnc26, ppa26, ppc26, ppl26, pca26, pcc26, pL26, rfl, hpo26, hpp26, hpL26, hE26⟩
   replace hB := below_ext hB hE26 hsz
   replace hb1 := hb1.ext hE26
   replace hpo5 := hpo5.ext hE26
   replace hR6 := hR6.ext hE26
   replace hRr6 := hRr6.ext hE26
   replace hpo8 := hpo8.ext hE26
   replace he9 := he9.ext hE26
   replace hsz := Nat.le_trans hsz hE26.size
   have hbg26 := post_big hpp26 hpL26 hbg
   refine l_q (q_move (v := .slice _ _ _) rfl rfl) ?_
   refine l_o (o_call Tryz.call21 rfl (rows10_ret _ _ R6 _ hR6 hRr6 hRs.1 hRs.2) rfl ?_)
   have hszp27 : w.heap.size ≤ w26.heap.size := hsz
   rintro _ w27 ⟨oa27, oc27, L27, rfl, ho27, hos27, hm27, hE27⟩
   replace ho27 := own_mono ho27 (show w.heap.size ≤ _ by omega)
   replace hB := below_ext hB hE27 hsz
   replace hb1 := hb1.ext hE27
   replace hpo5 := hpo5.ext hE27
   replace hR6 := hR6.ext hE27
   replace hRr6 := hRr6.ext hE27
   replace hpo8 := hpo8.ext hE27
   replace he9 := he9.ext hE27
   replace hpo26 := hpo26.ext hE27
   replace hsz := Nat.le_trans hsz hE27.size
   refine l_o (o_call Tryz.call25 rfl ((by have h := Fails_ret pna26 pnc26 nd ppa26 ppc26 ppl26 pca26 pcc26 pL26 _ _ L27 _ hpo26 hbg26.1 hbg26.2.1 hbg26.2.2.1 hbg26.2.2.2.1 (Row.of_owns ho27) hos27.rows (rows_same hm27 hRs.1 hRs.2).1 (rows_same hm27 hRs.1 hRs.2).2; rw [fails_eq (hpo26).rCr, po_pn hpp26 hpL26, hpL26, hm27] at h; exact h)) rfl ?_)
   rintro _ w28 ⟨fa28, fc28, rfl, hf28, hE28⟩
   replace hB := below_ext hB hE28 hsz
   replace hb1 := hb1.ext hE28
   replace hpo5 := hpo5.ext hE28
   replace hR6 := hR6.ext hE28
   replace hRr6 := hRr6.ext hE28
   replace hpo8 := hpo8.ext hE28
   replace he9 := he9.ext hE28
   replace hpo26 := hpo26.ext hE28
   replace ho27 := own_ext ho27 hE28
   replace hos27 := hos27.ext hE28
   replace hsz := Nat.le_trans hsz hE28.size
   refine l_q (q_move (v := .tuple _) rfl rfl) ?_
   refine l_q (q_extract (vs := [_, _]) (v := .slice _ _ _) rfl rfl rfl) ?_
   refine l_q (q_extract (vs := [_, _]) (v := .int _ _) rfl rfl rfl) ?_
   refine l_q (q_assign (v := .slice _ _ _) rfl rfl) ?_
   refine l_q (q_assign (v := .int _ _) rfl rfl) ?_
   refine l_nil (r_seq (r_region' ?_))
   refine l_q (q_load_agg (n := 3) Tryz.isAgg26 Tryz.sizeOf26 rfl ((hb1.cells' (cs' := [_, _, _]) 0 3 rfl)) rfl rfl) ?_
   refine l_o (o_call Tryz.call19 rfl (post10_ret na nc nd pa pc pl ca cc L _ (hpo.below hB) hbg) rfl ?_)
   rintro _ w29 ⟨pna29, pnc29, ppa29, ppc29, ppl29, pca29, pcc29, pL29, rfl, hpo29, hpp29, hpL29, hE29⟩
   replace hB := below_ext hB hE29 hsz
   replace hb1 := hb1.ext hE29
   replace hpo5 := hpo5.ext hE29
   replace hR6 := hR6.ext hE29
   replace hRr6 := hRr6.ext hE29
   replace hpo8 := hpo8.ext hE29
   replace he9 := he9.ext hE29
   replace hpo26 := hpo26.ext hE29
   replace ho27 := own_ext ho27 hE29
   replace hos27 := hos27.ext hE29
   replace hf28 := hf28.ext hE29
   replace hsz := Nat.le_trans hsz hE29.size
   have hbg29 := post_big hpp29 hpL29 hbg
   refine l_q (q_move (v := .slice _ _ _) rfl rfl) ?_
   refine l_o (o_call Tryz.call21 rfl (rows10_ret _ _ R6 _ hR6 hRr6 hRs.1 hRs.2) rfl ?_)
   have hszp30 : w.heap.size ≤ w29.heap.size := hsz
   rintro _ w30 ⟨oa30, oc30, L30, rfl, ho30, hos30, hm30, hE30⟩
   replace ho30 := own_mono ho30 (show w.heap.size ≤ _ by omega)
   replace hB := below_ext hB hE30 hsz
   replace hb1 := hb1.ext hE30
   replace hpo5 := hpo5.ext hE30
   replace hR6 := hR6.ext hE30
   replace hRr6 := hRr6.ext hE30
   replace hpo8 := hpo8.ext hE30
   replace he9 := he9.ext hE30
   replace hpo26 := hpo26.ext hE30
   replace ho27 := own_ext ho27 hE30
   replace hos27 := hos27.ext hE30
   replace hf28 := hf28.ext hE30
   replace hpo29 := hpo29.ext hE30
   replace hsz := Nat.le_trans hsz hE30.size
   refine l_o (o_call Tryz.call20 rfl ((by have h := Rules_ret pna29 pnc29 nd ppa29 ppc29 ppl29 pca29 pcc29 pL29 _ _ L30 _ hpo29 hbg29.1 hbg29.2.1 hbg29.2.2.1 hbg29.2.2.2.1 (Row.of_owns ho30) hos30.rows (rows_same hm30 hRs.1 hRs.2).1 (rows_same hm30 hRs.1 hRs.2).2; rw [rules_pn hpp29 hpL29, hm30] at h; exact h)) rfl ?_)
   rintro _ w31 ⟨rfl, hE31⟩
   replace hB := below_ext hB hE31 hsz
   replace hb1 := hb1.ext hE31
   replace hpo5 := hpo5.ext hE31
   replace hR6 := hR6.ext hE31
   replace hRr6 := hRr6.ext hE31
   replace hpo8 := hpo8.ext hE31
   replace he9 := he9.ext hE31
   replace hpo26 := hpo26.ext hE31
   replace ho27 := own_ext ho27 hE31
   replace hos27 := hos27.ext hE31
   replace hf28 := hf28.ext hE31
   replace hpo29 := hpo29.ext hE31
   replace ho30 := own_ext ho30 hE31
   replace hos30 := hos30.ext hE31
   replace hsz := Nat.le_trans hsz hE31.size
   refine l_q (q_move (v := .tuple _) rfl rfl) ?_
   refine l_q (q_extract (vs := [_, _]) (v := .bool _) rfl rfl rfl) ?_
   refine l_q (q_extract (vs := [_, _]) (v := .int _ _) rfl rfl rfl) ?_
   refine l_q (q_assign (v := .bool _) rfl rfl) ?_
   refine l_q (q_assign (v := .int _ _) rfl rfl) ?_
   refine l_nil ?_
   refine r_forget [(1, .pointer _), (3, .slice _ _ _), (4, .int _ _), (8, .slice _ _ _), (9, .int _ _), (10, .bool _), (11, .int _ _)] ⟨rfl, rfl, rfl, rfl, rfl, rfl, rfl, trivial⟩ (fun e32 => ?_)
   refine r_seq (r_seq (r_region' ?_))
   refine l_q (q_move (v := .int _ _) rfl rfl) ?_
   refine l_q (q_neq rfl rfl rfl) ?_
   refine l_q (q_move (v := .bool _) rfl rfl) ?_
   have hk33 : (!decide (((failsX nd (planP (po nd pl L) (R6.map (·.xs))) (R6.map (·.xs)) (L.map (·.xs))).1) = 0)) = false := by rw [fails_1, hp]; rfl
   refine l_part 93 rfl (fun hx => absurd (hk33.symm.trans hx) (by decide)) (fun _ => ?_)
   refine l_q (q_move (v := .int _ _) rfl rfl) ?_
   refine l_q (q_neq rfl rfl rfl) ?_
   refine l_q (q_pick_f (v := .bool _) rfl rfl rfl) ?_
   refine l_q (q_move (v := .bool _) rfl rfl) ?_
   have hk34 : (!decide (((rulesR nd pl L (R6.map (·.xs))).2) = 0)) = false := by rw [rulesR_2, hp]; rfl
   refine l_part 97 rfl (fun hx => absurd (hk34.symm.trans hx) (by decide)) (fun _ => ?_)
   refine l_q (q_move (v := .bool _) rfl rfl) ?_
   refine l_q (q_not rfl rfl) ?_
   refine l_q (q_pick_f (v := .bool _) rfl rfl rfl) ?_
   refine l_q (q_move (v := .bool _) rfl rfl) ?_
   have hk35 : (!((rulesR nd pl L (R6.map (·.xs))).1)) = false := by rw [rulesR_t hp, safe_rules hsf]; rfl
   refine l_part 101 rfl (fun hx => absurd (hk35.symm.trans hx) (by decide)) (fun _ => ?_)
   refine l_q (q_move (v := .slice _ _ _) rfl rfl) ?_
   refine l_q (q_len rfl Tryz.underlying22 rfl rfl) ?_
   refine l_q (q_fieldAddr (o' := 2) rfl fld26_2 rfl) ?_
   refine l_q (q_load Tryz.isAgg24 rfl ((hb1.has (o := 2) rfl)) rfl) ?_
   refine l_q (q_len rfl Tryz.underlying24 rfl rfl) ?_
   refine l_q (q_add rfl rfl (by omega) rfl) ?_
   refine l_q (q_neq rfl rfl rfl) ?_
   refine l_q (q_pick_f (v := .bool _) rfl rfl rfl) ?_
   refine l_nil ?_
   refine r_forget [(1, .pointer _), (3, .slice _ _ _), (4, .int _ _), (8, .slice _ _ _), (109, .bool _)] ⟨rfl, rfl, rfl, rfl, rfl, trivial⟩ (fun e36 => ?_)
   have hk37 : (!decide ((((failsX nd (planP (po nd pl L) (R6.map (·.xs))) (R6.map (·.xs)) (L.map (·.xs))).2).length : Int) = ((L.length : Int) + 1))) = false := by rw [hfl]; simp
   refine r_cond_f ((congrArg Value.bool hk37 : Value.bool _ = _)) ?_
   refine r_skip (r_seq (r_seq (r_region' ?_)))
   refine l_q (q_assign (v := .int _ _) rfl rfl) ?_
   refine l_nil (r_block ?_)
   refine r_rounds (α := Nat) (fun c e wl => Knows e [(1, ptr b1 0), (3, .slice ra6 R6.length rc6), (4, vint ((bestR nd pl L).2.1)), (8, .slice fa28 (((failsX nd (planP (po nd pl L) (R6.map (·.xs))) (R6.map (·.xs)) (L.map (·.xs))).2).length) fc28), (12, vint (c : Int))] ∧ (c ≤ L.length + 1) ∧ (Blk wl b1 [.slice na nd.length nc, .slice pa pl.length pc, .slice ca L.length cc]) ∧ (PoAt wl pna5 pnc5 nd ppa5 ppc5 ppl5 pca5 pcc5 pL5) ∧ (Row wl ra6 R6.length rc6 1 (R6.map SV.enc)) ∧ (RowsI wl R6) ∧ (PoAt wl pna8 pnc8 nd ppa8 ppc8 ppl8 pca8 pcc8 pL8) ∧ (Row wl ea9 (((enoughR nd pl L).2).length) ec9 1 (((enoughR nd pl L).2).map vint)) ∧ (PoAt wl pna26 pnc26 nd ppa26 ppc26 ppl26 pca26 pcc26 pL26) ∧ (wl.ownsRow w.heap.size 22 1 (.slice oa27 ((L27).length) oc27) ((L27).length) ((L27).map SV.enc)) ∧ (OwnsI wl w26.heap.size 3 L27) ∧ (Row wl fa28 (((failsX nd (planP (po nd pl L) (R6.map (·.xs))) (R6.map (·.xs)) (L.map (·.xs))).2).length) fc28 1 (((failsX nd (planP (po nd pl L) (R6.map (·.xs))) (R6.map (·.xs)) (L.map (·.xs))).2).map vint)) ∧ (PoAt wl pna29 pnc29 nd ppa29 ppc29 ppl29 pca29 pcc29 pL29) ∧ (wl.ownsRow w.heap.size 22 1 (.slice oa30 ((L30).length) oc30) ((L30).length) ((L30).map SV.enc)) ∧ (OwnsI wl w29.heap.size 3 L30) ∧ (w.heap.size ≤ wl.heap.size) ∧ (Below w.heap.size w wl)) (fun c => L.length + 1 - c) 0 ?_ ?_
   ·
    exact ⟨⟨rfl, rfl, rfl, rfl, rfl, trivial⟩, (Nat.zero_le _), hb1, hpo5, hR6, hRr6, hpo8, he9, hpo26, ho27, hos27, hf28, hpo29, ho30, hos30, hsz, hB⟩
   ·
    rintro c el38 wl38 ⟨hkn, hkc, hb1, hpo5, hR6, hRr6, hpo8, he9, hpo26, ho27, hos27, hf28, hpo29, ho30, hos30, hsz, hB⟩ ih38
    obtain ⟨e38, rfl⟩ := knows_env hkn
    refine r_seq (r_seq (r_region' ?_))
    refine l_q (q_move (v := .int _ _) rfl rfl) ?_
    refine l_q (q_move (v := .slice _ _ _) rfl rfl) ?_
    refine l_q (q_len rfl Tryz.underlying22 rfl rfl) ?_
    refine l_q (q_lss rfl rfl rfl) ?_
    refine l_nil ?_
    refine r_cond rfl (fun hc39 => ?_) (fun hc39 => ?_)
    ·
     replace hc39 := dt hc39
     have hcl : c < L.length + 1 := by omega
     refine r_skip (r_seq (r_block (r_seq (r_region' ?_))))
     refine l_q (q_move (v := .slice _ _ _) rfl rfl) ?_
     refine l_q (q_move (v := .int _ _) rfl rfl) ?_
     obtain ⟨b40, o40, ha40, hh40⟩ := hf28.at1 c (((failsX nd (planP (po nd pl L) (R6.map (·.xs))) (R6.map (·.xs)) (L.map (·.xs))).2).getD c 0) (getD_some (by omega))
     refine l_q (q_indexAddr1 Tryz.underlying22 Tryz.sizeOf3 rfl ha40 rfl (by omega) rfl) ?_
     refine l_q (q_load Tryz.isAgg3 rfl (hh40) rfl) ?_
     refine l_q (q_neq rfl rfl rfl) ?_
     refine l_nil ?_
     have hk41 : (!decide ((((failsX nd (planP (po nd pl L) (R6.map (·.xs))) (R6.map (·.xs)) (L.map (·.xs))).2).getD c 0) = (-1))) = false := by rw [fails_at hp (by rw [List.length_map]; omega), safe_fail hsf (by rw [List.length_map]; omega)]; rfl
     refine r_cond_f ((congrArg Value.bool hk41 : Value.bool _ = _)) ?_
     refine r_skip (r_inBlock (r_region' ?_))
     refine l_q (q_move (v := .int _ _) rfl rfl) ?_
     refine l_q (q_add rfl rfl (by omega) rfl) ?_
     refine l_q (q_assign (v := .int _ _) rfl rfl) ?_
     refine l_nil ?_
     refine r_forget [(1, .pointer _), (3, .slice _ _ _), (4, .int _ _), (8, .slice _ _ _), (12, .int _ _)] ⟨rfl, rfl, rfl, rfl, rfl, trivial⟩ (fun e42 => ?_)
     exact ih38 (c + 1) _ _ ⟨⟨rfl, rfl, rfl, rfl, by first | rfl | exact vint_eq (by omega), trivial⟩, (by omega), hb1, hpo5, hR6, hRr6, hpo8, he9, hpo26, ho27, hos27, hf28, hpo29, ho30, hos30, hsz, hB⟩ (by first | omega | (dsimp only; omega))
    ·
     replace hc39 := dlt hc39
     refine r_exit rfl ?_
     refine r_seq (r_region' ?_)
     refine l_q (q_load_agg (n := 3) Tryz.isAgg26 Tryz.sizeOf26 rfl ((hb1.cells' (cs' := [_, _, _]) 0 3 rfl)) rfl rfl) ?_
     refine l_o (o_call Tryz.call19 rfl (post10_ret na nc nd pa pc pl ca cc L _ (hpo.below hB) hbg) rfl ?_)
     rintro _ w43 ⟨pna43, pnc43, ppa43, ppc43, ppl43, pca43, pcc43, pL43, rfl, hpo43, hpp43, hpL43, hE43⟩
     replace hB := below_ext hB hE43 hsz
     replace hb1 := hb1.ext hE43
     replace hR6 := hR6.ext hE43
     replace hRr6 := hRr6.ext hE43
     replace hsz := Nat.le_trans hsz hE43.size
     have hbg43 := post_big hpp43 hpL43 hbg
     refine l_q (q_move (v := .slice _ _ _) rfl rfl) ?_
     refine l_o (o_call Tryz.call21 rfl (rows10_ret _ _ R6 _ hR6 hRr6 hRs.1 hRs.2) rfl ?_)
     have hszp44 : w.heap.size ≤ w43.heap.size := hsz
     rintro _ w44 ⟨oa44, oc44, L44, rfl, ho44, hos44, hm44, hE44⟩
     replace ho44 := own_mono ho44 (show w.heap.size ≤ _ by omega)
     replace hB := below_ext hB hE44 hsz
     replace hb1 := hb1.ext hE44
     replace hR6 := hR6.ext hE44
     replace hRr6 := hRr6.ext hE44
     replace hpo43 := hpo43.ext hE44
     replace hsz := Nat.le_trans hsz hE44.size
     refine l_q (q_move (v := .int _ _) rfl rfl) ?_
     refine l_o (o_call Tryz.call51 rfl ((by have h := prove_ret pna43 pnc43 nd ppa43 ppc43 ppl43 pca43 pcc43 pL43 _ _ L44 ((bestR nd pl L).2.1) _ hpo43 hbg43.1 hbg43.2.1 hbg43.2.2.1 hbg43.2.2.2.1 (Row.of_owns ho44) hos44.rows (rows_same hm44 hRs.1 hRs.2).1 (rows_same hm44 hRs.1 hRs.2).2; rw [prove_eq, po_pn hpp43 hpL43, hpL43, hm44, proveX_pn hpp43] at h; exact h)) rfl ?_)
     rintro _ w45 ⟨rfl, hE45⟩
     replace hB := below_ext hB hE45 hsz
     replace hb1 := hb1.ext hE45
     replace hR6 := hR6.ext hE45
     replace hRr6 := hRr6.ext hE45
     replace hsz := Nat.le_trans hsz hE45.size
     refine l_q (q_move (v := .bool _) rfl rfl) ?_
     have hk46 : (proveX nd pl (L.map (·.xs)) (planP (po nd pl L) (R6.map (·.xs))) (R6.map (·.xs)) ((bestR nd pl L).2.1)) = true := by rw [prv hp hcT, hdT]; simp
     refine l_part 127 rfl (fun _ => ?_) (fun hx => absurd (hk46.symm.trans hx) (by decide))
     refine l_q (q_load_agg (n := 3) Tryz.isAgg26 Tryz.sizeOf26 rfl ((hb1.cells' (cs' := [_, _, _]) 0 3 rfl)) rfl rfl) ?_
     refine l_o (o_call Tryz.call19 rfl (post10_ret na nc nd pa pc pl ca cc L _ (hpo.below hB) hbg) rfl ?_)
     rintro _ w47 ⟨pna47, pnc47, ppa47, ppc47, ppl47, pca47, pcc47, pL47, rfl, hpo47, hpp47, hpL47, hE47⟩
     replace hB := below_ext hB hE47 hsz
     replace hR6 := hR6.ext hE47
     replace hRr6 := hRr6.ext hE47
     replace hsz := Nat.le_trans hsz hE47.size
     have hbg47 := post_big hpp47 hpL47 hbg
     refine l_q (q_move (v := .slice _ _ _) rfl rfl) ?_
     refine l_o (o_call Tryz.call21 rfl (rows10_ret _ _ R6 _ hR6 hRr6 hRs.1 hRs.2) rfl ?_)
     have hszp48 : w.heap.size ≤ w47.heap.size := hsz
     rintro _ w48 ⟨oa48, oc48, L48, rfl, ho48, hos48, hm48, hE48⟩
     replace ho48 := own_mono ho48 (show w.heap.size ≤ _ by omega)
     replace hB := below_ext hB hE48 hsz
     replace hpo47 := hpo47.ext hE48
     replace hsz := Nat.le_trans hsz hE48.size
     refine l_q (q_move (v := .int _ _) rfl rfl) ?_
     refine l_q (q_sub rfl rfl (by omega) rfl) ?_
     refine l_o (o_call Tryz.call51 rfl ((by have h := prove_ret pna47 pnc47 nd ppa47 ppc47 ppl47 pca47 pcc47 pL47 _ _ L48 (((bestR nd pl L).2.1) - 1) _ hpo47 hbg47.1 hbg47.2.1 hbg47.2.2.1 hbg47.2.2.2.1 (Row.of_owns ho48) hos48.rows (rows_same hm48 hRs.1 hRs.2).1 (rows_same hm48 hRs.1 hRs.2).2; rw [prove_eq, po_pn hpp47 hpL47, hpL47, hm48, proveX_pn hpp47] at h; exact h)) rfl ?_)
     rintro _ w49 ⟨rfl, hE49⟩
     replace hB := below_ext hB hE49 hsz
     replace hsz := Nat.le_trans hsz hE49.size
     refine l_q (q_not rfl rfl) ?_
     refine l_q (q_pick_t (v := .bool _) rfl rfl rfl) ?_
     refine l_q (q_move (v := .bool _) rfl rfl) ?_
     have hk50 : (!(proveX nd pl (L.map (·.xs)) (planP (po nd pl L) (R6.map (·.xs))) (R6.map (·.xs)) (((bestR nd pl L).2.1) - 1))) = true := by rw [prv hp hcT, hdT, decide_eq_false (by omega)]; rfl
     refine l_part 137 rfl (fun _ => ?_) (fun hx => absurd (hk50.symm.trans hx) (by decide))
     refine l_o (o_call Tryz.call17 rfl (awake_ret _) rfl ?_)
     rintro _ w51 ⟨rfl, hE51⟩
     replace hB := below_ext hB hE51 hsz
     replace hsz := Nat.le_trans hsz hE51.size
     refine l_q (q_pick_t (v := .bool _) rfl rfl rfl) ?_
     refine l_q (q_assign (v := .bool _) rfl rfl) ?_
     refine l_nil ?_
     refine r_forget [(2, .bool _)] ⟨rfl, trivial⟩ (fun e52 => ?_)
     refine r_ret_ (vs := [.bool _]) rfl Tryz.func12 rfl (.nil _) ⟨rfl, trivial⟩ ?_
     exact ⟨rfl, Ext.of_below hB⟩
end Go.Proofs.YtgdanglidienmaaGreat
