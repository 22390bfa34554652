/- Contracts. -/
import Derived.Test.YtgdanglidienmaaGreatR23
set_option linter.unusedVariables false
set_option linter.unusedSimpArgs false
namespace Go.Proofs.YtgdanglidienmaaGreat
open Go Go.RowKit Go.Gv Go.Fl


theorem rotaFewest_ret (na : Option Addr) (nc : Nat) (nd : List Int) (pa : Option Addr) (pc : Nat) (pl : List PV) (ca : Option Addr) (cc : Nat) (L : List SV) (wa : Option Addr) (wc : Nat) (ws : List Int) (w : World) (hpo : PoAt w na nc nd pa pc pl ca cc L) (hbg : PoBig nd pl L) (hwd : Row w wa ws.length wc 1 (ws.map (Value.int .u16))) (hwn : ws.length ≤ 2097152) (hwr : ∀ x ∈ ws, 0 ≤ x ∧ x ≤ 65535) : Ret Tryz.prog 13 [.agg ⟨[.slice na nd.length nc, .slice pa pl.length pc, .slice ca L.length cc]⟩, .slice wa ws.length wc] w (fun v w' => v = .bool true ∧ Ext w w') := by
 obtain ⟨hnl, hpll, hLl, hLs, hPb⟩ := id hbg
 have hB := Below.refl w.heap.size w
 have hsz : w.heap.size ≤ w.heap.size := Nat.le_refl _
 refine ret_of_runs (args := [_, _]) Tryz.func13 rfl (Nat.le_of_ble_eq_true rfl) (by kernel_rfl) ?_
 refine r_seq (r_region' ?_)
 refine l_o (o_box rfl rfl rfl ?_)
 intro b1 w1 hzl1 hzr1 _ hb1 hE1
 have hbs_b1 : w.heap.size ≤ b1 := Nat.le_trans hsz hzl1
 replace hB := below_ext hB hE1 hsz
 replace hsz := Nat.le_trans hsz hE1.size
 refine l_q (q_assign (v := .bool _) rfl rfl) ?_
 refine l_nil (r_seq (r_seq (r_region' ?_)))
 refine l_q (q_load_agg (n := 3) Tryz.isAgg26 Tryz.sizeOf26 rfl ((hb1.cells' (cs' := [_, _, _]) 0 3 rfl)) rfl rfl) ?_
 refine l_o (o_call Tryz.call40 rfl (ready10_ret na nc nd pa pc pl ca cc L _ (hpo.below hB) hbg) rfl ?_)
 rintro _ w2 ⟨bb2, rfl, hrdy2, hE2⟩
 replace hB := below_ext hB hE2 hsz
 replace hb1 := hb1.ext hE2
 replace hsz := Nat.le_trans hsz hE2.size
 have hrdy := hrdy2
 refine l_q (q_not rfl rfl) ?_
 refine l_nil ?_
 refine r_cond rfl (fun hc3 => ?_) (fun hc3 => ?_)
 ·
  replace hc3 := nt hc3
  refine r_seq (r_region' ?_)
  refine l_o (o_call Tryz.call17 rfl (awake_ret _) rfl ?_)
  rintro _ w4 ⟨rfl, hE4⟩
  replace hB := below_ext hB hE4 hsz
  replace hb1 := hb1.ext hE4
  replace hsz := Nat.le_trans hsz hE4.size
  refine l_q (q_assign (v := .bool _) rfl rfl) ?_
  refine l_nil ?_
  refine r_ret_ (vs := [.bool _]) rfl Tryz.func13 rfl (.nil _) ⟨rfl, trivial⟩ ?_
  exact ⟨rfl, Ext.of_below hB⟩
 ·
  replace hc3 := nf hc3
  have hok := hrdy hc3
  obtain ⟨⟨hn1, hn5⟩, ⟨hp1, hp4⟩, hL4, hnn, hpp, hLL⟩ := po_ok hok
  refine r_skip (r_seq (r_region' ?_))
  refine l_q (q_load_agg (n := 3) Tryz.isAgg26 Tryz.sizeOf26 rfl ((hb1.cells' (cs' := [_, _, _]) 0 3 rfl)) rfl rfl) ?_
  refine l_q (q_move (v := .slice _ _ _) rfl rfl) ?_
  refine l_o (o_call Tryz.call43 rfl (made10_ret na nc nd pa pc pl ca cc L _ _ ws _ (hpo.below hB) hbg hok (hwd.below hB) hwn hwr) rfl ?_)
  have hszp5 : w.heap.size ≤ w2.heap.size := hsz
  rintro _ w5 ⟨oa5, oc5, L5, rfl, ho5, hos5, hI5, hE5⟩
  replace ho5 := own_mono ho5 (show w.heap.size ≤ _ by omega)
  replace hB := below_ext hB hE5 hsz
  replace hb1 := hb1.ext hE5
  replace hsz := Nat.le_trans hsz hE5.size
  have hI := hI5
  have hXs := isr_small hI hn5 hp4
  have hpx := plan_zero hok hI
  have hXn := isr_len hI
  refine l_q (q_assign (v := .slice _ _ _) rfl rfl) ?_
  refine l_nil (r_seq (r_region' ?_))
  refine l_q (q_load_agg (n := 3) Tryz.isAgg26 Tryz.sizeOf26 rfl ((hb1.cells' (cs' := [_, _, _]) 0 3 rfl)) rfl rfl) ?_
  refine l_o (o_call Tryz.call19 rfl (post10_ret na nc nd pa pc pl ca cc L _ (hpo.below hB) hbg) rfl ?_)
  rintro _ w6 ⟨pna6, pnc6, ppa6, ppc6, ppl6, pca6, pcc6, pL6, rfl, hpo6, hpp6, hpL6, hE6⟩
  replace hB := below_ext hB hE6 hsz
  replace hb1 := hb1.ext hE6
  replace ho5 := own_ext ho5 hE6
  replace hos5 := hos5.ext hE6
  replace hsz := Nat.le_trans hsz hE6.size
  have hbg6 := post_big hpp6 hpL6 hbg
  refine l_o (o_call Tryz.call46 rfl ((by have h := best_ret pna6 pnc6 nd ppa6 ppc6 ppl6 pca6 pcc6 pL6 _ hpo6 hbg6.1 hbg6.2.1 hbg6.2.2.1 hbg6.2.2.2.1; rw [best_pn hpp6 hpL6] at h; exact h)) rfl ?_)
  rintro _ w7 ⟨ra7, rc7, R7, rfl, hRo7, hRs7, hRm7, hE7⟩
  replace hB := below_ext hB hE7 hsz
  replace hb1 := hb1.ext hE7
  replace ho5 := own_ext ho5 hE7
  replace hos5 := hos5.ext hE7
  replace hsz := Nat.le_trans hsz hE7.size
  have hR7 := Row.of_owns hRo7
  have hRr7 := hRs7.rows
  refine l_q (q_move (v := .tuple _) rfl rfl) ?_
  refine l_q (q_extract (vs := [_, _, _]) (v := .slice _ _ _) rfl rfl rfl) ?_
  refine l_q (q_extract (vs := [_, _, _]) (v := .int _ _) rfl rfl rfl) ?_
  refine l_q (q_extract (vs := [_, _, _]) (v := .int _ _) rfl rfl rfl) ?_
  refine l_q (q_assign (v := .slice _ _ _) rfl rfl) ?_
  refine l_q (q_assign (v := .int _ _) rfl rfl) ?_
  refine l_q (q_assign (v := .int _ _) rfl rfl) ?_
  refine l_nil ?_
  refine r_forget [(2, .pointer _), (5, .slice _ _ _), (6, .slice _ _ _), (7, .int _ _), (8, .int _ _)] ⟨rfl, rfl, rfl, rfl, rfl, trivial⟩ (fun e8 => ?_)
  refine r_seq (r_region' ?_)
  refine l_q (q_load_agg (n := 3) Tryz.isAgg26 Tryz.sizeOf26 rfl ((hb1.cells' (cs' := [_, _, _]) 0 3 rfl)) rfl rfl) ?_
  refine l_o (o_call Tryz.call19 rfl (post10_ret na nc nd pa pc pl ca cc L _ (hpo.below hB) hbg) rfl ?_)
  rintro _ w9 ⟨pna9, pnc9, ppa9, ppc9, ppl9, pca9, pcc9, pL9, rfl, hpo9, hpp9, hpL9, hE9⟩
  replace hB := below_ext hB hE9 hsz
  replace hb1 := hb1.ext hE9
  replace ho5 := own_ext ho5 hE9
  replace hos5 := hos5.ext hE9
  replace hR7 := hR7.ext hE9
  replace hRr7 := hRr7.ext hE9
  replace hsz := Nat.le_trans hsz hE9.size
  have hbg9 := post_big hpp9 hpL9 hbg
  refine l_q (q_move (v := .slice _ _ _) rfl rfl) ?_
  refine l_o (o_call Tryz.call21 rfl (rows10_ret _ _ L5 _ (Row.of_owns ho5) hos5.rows hXs.1 hXs.2) rfl ?_)
  have hszp10 : w.heap.size ≤ w9.heap.size := hsz
  rintro _ w10 ⟨oa10, oc10, L10, rfl, ho10, hos10, hm10, hE10⟩
  replace ho10 := own_mono ho10 (show w.heap.size ≤ _ by omega)
  replace hB := below_ext hB hE10 hsz
  replace hb1 := hb1.ext hE10
  replace ho5 := own_ext ho5 hE10
  replace hos5 := hos5.ext hE10
  replace hR7 := hR7.ext hE10
  replace hRr7 := hRr7.ext hE10
  replace hpo9 := hpo9.ext hE10
  replace hsz := Nat.le_trans hsz hE10.size
  refine l_o (o_call Tryz.call51 rfl ((by have h := prove_ret pna9 pnc9 nd ppa9 ppc9 ppl9 pca9 pcc9 pL9 _ _ L10 99 _ hpo9 hbg9.1 hbg9.2.1 hbg9.2.2.1 hbg9.2.2.2.1 (Row.of_owns ho10) hos10.rows (rows_same hm10 hXs.1 hXs.2).1 (rows_same hm10 hXs.1 hXs.2).2; rw [prove_eq, po_pn hpp9 hpL9, hpL9, hm10, proveX_pn hpp9] at h; exact h)) rfl ?_)
  rintro _ w11 ⟨rfl, hE11⟩
  replace hB := below_ext hB hE11 hsz
  replace hb1 := hb1.ext hE11
  replace ho5 := own_ext ho5 hE11
  replace hos5 := hos5.ext hE11
  replace hR7 := hR7.ext hE11
  replace hRr7 := hRr7.ext hE11
  replace hsz := Nat.le_trans hsz hE11.size
  refine l_q (q_assign (v := .bool _) rfl rfl) ?_
  refine l_nil (r_seq (r_seq (r_region' ?_)))
  refine l_q (q_move (v := .int _ _) rfl rfl) ?_
  refine l_q (q_neq rfl rfl rfl) ?_
  refine l_nil ?_
  refine r_cond rfl (fun hc12 => ?_) (fun hc12 => ?_)
  ·
   replace hc12 := df (nt hc12)
   have hb := bst_no hok hc12
   have hbn := bst_none hok hc12 _ hI
   refine r_seq (r_region' ?_)
   refine l_q (q_move (v := .int _ _) rfl rfl) ?_
   refine l_q (q_eql rfl rfl rfl) ?_
   refine l_q (q_move (v := .bool _) rfl rfl) ?_
   have hk13 : (decide (((bestR nd pl L).2.2) = 10)) = true := decide_eq_true (by rw [hb.1])
   refine l_part 34 rfl (fun _ => ?_) (fun hx => absurd (hk13.symm.trans hx) (by decide))
   refine l_q (q_move (v := .bool _) rfl rfl) ?_
   refine l_q (q_not rfl rfl) ?_
   refine l_q (q_pick_t (v := .bool _) rfl rfl rfl) ?_
   refine l_q (q_move (v := .bool _) rfl rfl) ?_
   have hk14 : (!(proveX nd pl (L.map (·.xs)) (planP (po nd pl L) (L5.map (·.xs))) (L5.map (·.xs)) 99)) = true := by rw [prv_safe hok hI (by decide), chn_safe hok hI]; rw [hbn]; rfl
   refine l_part 38 rfl (fun _ => ?_) (fun hx => absurd (hk14.symm.trans hx) (by decide))
   refine l_o (o_call Tryz.call17 rfl (awake_ret _) rfl ?_)
   rintro _ w15 ⟨rfl, hE15⟩
   replace hB := below_ext hB hE15 hsz
   replace hb1 := hb1.ext hE15
   replace ho5 := own_ext ho5 hE15
   replace hos5 := hos5.ext hE15
   replace hR7 := hR7.ext hE15
   replace hRr7 := hRr7.ext hE15
   replace hsz := Nat.le_trans hsz hE15.size
   refine l_q (q_pick_t (v := .bool _) rfl rfl rfl) ?_
   refine l_q (q_assign (v := .bool _) rfl rfl) ?_
   refine l_nil ?_
   refine r_forget [(4, .bool _)] ⟨rfl, trivial⟩ (fun e16 => ?_)
   refine r_ret_ (vs := [.bool _]) rfl Tryz.func13 rfl (.nil _) ⟨rfl, trivial⟩ ?_
   exact ⟨rfl, Ext.of_below hB⟩
  ·
   replace hc12 := dt (nf hc12)
   have hb0 : (bestR nd pl L).2.2 = 0 := hc12
   obtain ⟨hIB, hcB, hdB, hmin⟩ := bst_yes hok hb0
   have hRs := rows_small hRm7 (bst_sm hok)
   rw [← hRm7] at hdB hmin
   refine r_skip (r_seq (r_region' ?_))
   refine l_q (q_move (v := .slice _ _ _) rfl rfl) ?_
   refine l_o (o_call Tryz.call53 rfl (duties10_ret _ _ L5 _ (Row.of_owns ho5) hos5.rows hXs.1 hXs.2) rfl ?_)
   rintro _ w17 ⟨rfl, hE17⟩
   replace hB := below_ext hB hE17 hsz
   replace hb1 := hb1.ext hE17
   replace ho5 := own_ext ho5 hE17
   replace hos5 := hos5.ext hE17
   replace hR7 := hR7.ext hE17
   replace hRr7 := hRr7.ext hE17
   replace hsz := Nat.le_trans hsz hE17.size
   refine l_q (q_assign (v := .int _ _) rfl rfl) ?_
   refine l_nil ?_
   refine r_forget [(2, .pointer _), (5, .slice _ _ _), (6, .slice _ _ _), (7, .int _ _), (9, .bool _), (10, .int _ _)] ⟨rfl, rfl, rfl, rfl, rfl, rfl, trivial⟩ (fun e18 => ?_)
   refine r_seq (r_region' ?_)
   refine l_q (q_move (v := .bool _) rfl rfl) ?_
   refine l_q (q_load_agg (n := 3) Tryz.isAgg26 Tryz.sizeOf26 rfl ((hb1.cells' (cs' := [_, _, _]) 0 3 rfl)) rfl rfl) ?_
   refine l_q (q_move (v := .slice _ _ _) rfl rfl) ?_
   refine l_o (o_call Tryz.call52 rfl (safe10_ret na nc nd pa pc pl ca cc L _ _ L5 _ (hpo.below hB) hok (Row.of_owns ho5) hos5.rows hXs.1 hXs.2 (by omega) (plan_on hpx)) rfl ?_)
   rintro _ w19 ⟨rfl, hE19⟩
   replace hB := below_ext hB hE19 hsz
   replace ho5 := own_ext ho5 hE19
   replace hos5 := hos5.ext hE19
   replace hR7 := hR7.ext hE19
   replace hRr7 := hRr7.ext hE19
   replace hsz := Nat.le_trans hsz hE19.size
   refine l_q (q_eql_bool Tryz.underlying4 rfl rfl rfl) ?_
   refine l_q (q_move (v := .bool _) rfl rfl) ?_
   have hk20 : ((proveX nd pl (L.map (·.xs)) (planP (po nd pl L) (L5.map (·.xs))) (L5.map (·.xs)) 99) == (safeX nd pl (L.map (·.xs)) (L5.map (·.xs)))) = true := by rw [prv_safe hok hI (by decide)]; simp
   refine l_part 48 rfl (fun _ => ?_) (fun hx => absurd (hk20.symm.trans hx) (by decide))
   refine l_q (q_move (v := .bool _) rfl rfl) ?_
   refine l_q (q_not rfl rfl) ?_
   refine l_q (q_move (v := .bool _) rfl rfl) ?_
   refine l_part 51 rfl (fun hc21 => ?_) (fun hc21 => ?_)
   ·
    replace hc21 := nt hc21
    have his := hc21
    refine l_q (q_skip rfl) ?_
    refine l_q (q_skip rfl) ?_
    refine l_q (q_skip rfl) ?_
    refine l_q (q_pick_t (v := .bool _) rfl rfl rfl) ?_
    refine l_q (q_move (v := .bool _) rfl rfl) ?_
    refine l_q (q_skip rfl) ?_
    refine l_q (q_skip rfl) ?_
    refine l_q (q_skip rfl) ?_
    refine l_q (q_skip rfl) ?_
    refine l_q (q_skip rfl) ?_
    refine l_q (q_skip rfl) ?_
    refine l_q (q_skip rfl) ?_
    refine l_q (q_skip rfl) ?_
    refine l_q (q_skip rfl) ?_
    refine l_q (q_pick_t (v := .bool _) rfl rfl rfl) ?_
    refine l_q (q_pick_t (v := .bool _) rfl rfl rfl) ?_
    refine l_q (q_move (v := .bool _) rfl rfl) ?_
    refine l_o (o_call Tryz.call17 rfl (awake_ret _) rfl ?_)
    rintro _ w22 ⟨rfl, hE22⟩
    replace hB := below_ext hB hE22 hsz
    replace ho5 := own_ext ho5 hE22
    replace hos5 := hos5.ext hE22
    replace hR7 := hR7.ext hE22
    replace hRr7 := hRr7.ext hE22
    replace hsz := Nat.le_trans hsz hE22.size
    refine l_q (q_pick_t (v := .bool _) rfl rfl rfl) ?_
    refine l_q (q_assign (v := .bool _) rfl rfl) ?_
    refine l_nil ?_
    refine r_forget [(4, .bool _)] ⟨rfl, trivial⟩ (fun e23 => ?_)
    refine r_ret_ (vs := [.bool _]) rfl Tryz.func13 rfl (.nil _) ⟨rfl, trivial⟩ ?_
    exact ⟨rfl, Ext.of_below hB⟩
   ·
    replace hc21 := nf hc21
    have his := hc21
    rw [prv_safe hok hI (by decide), chn_safe hok hI] at his
    have hmn := hmin _ hI his
    refine l_q (q_move (v := .int _ _) rfl rfl) ?_
    refine l_q (q_move (v := .int _ _) rfl rfl) ?_
    refine l_q (q_gtr rfl rfl rfl) ?_
    refine l_q (q_pick_f (v := .bool _) rfl rfl rfl) ?_
    refine l_q (q_move (v := .bool _) rfl rfl) ?_
    refine l_part 56 rfl (fun hc24 => ?_) (fun hc24 => ?_)
    ·
     replace hc24 := dt hc24
     have hmg := hc24
     refine l_q (q_skip rfl) ?_
     refine l_q (q_skip rfl) ?_
     refine l_q (q_skip rfl) ?_
     refine l_q (q_skip rfl) ?_
     refine l_q (q_skip rfl) ?_
     refine l_q (q_skip rfl) ?_
     refine l_q (q_skip rfl) ?_
     refine l_q (q_skip rfl) ?_
     refine l_q (q_skip rfl) ?_
     refine l_q (q_pick_t (v := .bool _) rfl rfl rfl) ?_
     refine l_q (q_pick_t (v := .bool _) rfl rfl rfl) ?_
     refine l_q (q_move (v := .bool _) rfl rfl) ?_
     refine l_o (o_call Tryz.call17 rfl (awake_ret _) rfl ?_)
     rintro _ w25 ⟨rfl, hE25⟩
     replace hB := below_ext hB hE25 hsz
     replace ho5 := own_ext ho5 hE25
     replace hos5 := hos5.ext hE25
     replace hR7 := hR7.ext hE25
     replace hRr7 := hRr7.ext hE25
     replace hsz := Nat.le_trans hsz hE25.size
     refine l_q (q_pick_t (v := .bool _) rfl rfl rfl) ?_
     refine l_q (q_assign (v := .bool _) rfl rfl) ?_
     refine l_nil ?_
     refine r_forget [(4, .bool _)] ⟨rfl, trivial⟩ (fun e26 => ?_)
     refine r_ret_ (vs := [.bool _]) rfl Tryz.func13 rfl (.nil _) ⟨rfl, trivial⟩ ?_
     exact ⟨rfl, Ext.of_below hB⟩
    ·
     replace hc24 := dlt hc24
     have hmg := hc24
     have hmq : dut (L5.map (·.xs)) = (bestR nd pl L).2.1 ∧ smB (L5.map (·.xs)) (R7.map (·.xs)) = false := by
       rw [hdB] at hmg ⊢
       rcases hmn with h | h
       · exact absurd hmg (by omega)
       · exact ⟨h.1.symm, h.2⟩
     refine l_q (q_move (v := .int _ _) rfl rfl) ?_
     refine l_q (q_move (v := .int _ _) rfl rfl) ?_
     refine l_q (q_eql rfl rfl rfl) ?_
     refine l_q (q_move (v := .bool _) rfl rfl) ?_
     have hk27 : (decide ((dut (L5.map (·.xs))) = ((bestR nd pl L).2.1))) = true := decide_eq_true hmq.1
     refine l_part 60 rfl (fun _ => ?_) (fun hx => absurd (hk27.symm.trans hx) (by decide))
     refine l_q (q_move (v := .slice _ _ _) rfl rfl) ?_
     refine l_q (q_move (v := .slice _ _ _) rfl rfl) ?_
     refine l_o (o_call Tryz.call57 rfl (smaller10_ret _ _ L5 _ _ R7 _ (Row.of_owns ho5) hos5.rows hXs.1 hXs.2 hR7 hRr7 hRs.1 hRs.2) rfl ?_)
     rintro _ w28 ⟨rfl, hE28⟩
     replace hB := below_ext hB hE28 hsz
     replace hsz := Nat.le_trans hsz hE28.size
     refine l_q (q_not rfl rfl) ?_
     refine l_q (q_pick_t (v := .bool _) rfl rfl rfl) ?_
     refine l_q (q_pick_f (v := .bool _) rfl rfl rfl) ?_
     refine l_q (q_pick_t (v := .bool _) rfl rfl rfl) ?_
     refine l_q (q_move (v := .bool _) rfl rfl) ?_
     have hk29 : (!(smB (L5.map (·.xs)) (R7.map (·.xs)))) = true := by first | rfl | (rw [hmq.2]; rfl)
     refine l_part 68 rfl (fun _ => ?_) (fun hx => absurd (hk29.symm.trans hx) (by decide))
     refine l_o (o_call Tryz.call17 rfl (awake_ret _) rfl ?_)
     rintro _ w30 ⟨rfl, hE30⟩
     replace hB := below_ext hB hE30 hsz
     replace hsz := Nat.le_trans hsz hE30.size
     refine l_q (q_pick_t (v := .bool _) rfl rfl rfl) ?_
     refine l_q (q_assign (v := .bool _) rfl rfl) ?_
     refine l_nil ?_
     refine r_forget [(4, .bool _)] ⟨rfl, trivial⟩ (fun e31 => ?_)
     refine r_ret_ (vs := [.bool _]) rfl Tryz.func13 rfl (.nil _) ⟨rfl, trivial⟩ ?_
     exact ⟨rfl, Ext.of_below hB⟩
end Go.Proofs.YtgdanglidienmaaGreat
