/- Contracts. -/
import Derived.Test.YtgdanglidienmaaGreatRS
import Derived.Test.YtgdanglidienmaaGreatRK
set_option linter.unusedVariables false
set_option linter.unusedSimpArgs false
namespace Go.Proofs.YtgdanglidienmaaGreat
open Go Go.RowKit Go.Gv Go.Fl


theorem rotaBest_ret (na : Option Addr) (nc : Nat) (nd : List Int) (pa : Option Addr) (pc : Nat) (pl : List PV) (ca : Option Addr) (cc : Nat) (L : List SV) (ra : Option Addr) (rc : Nat) (R : List SV) (du : Int) (w : World) (hpo : PoAt w na nc nd pa pc pl ca cc L) (hbg : PoBig nd pl L) (hR : Row w ra R.length rc 1 (R.map SV.enc)) (hRr : RowsI w R) (hRl : R.length ≤ 2097152) (hRx : ∀ s ∈ R, s.xs.length ≤ 2097152) (hdu : -9223372036854775808 ≤ du ∧ du ≤ 9223372036854775807) : Ret Tryz.prog 11 [.agg ⟨[.slice na nd.length nc, .slice pa pl.length pc, .slice ca L.length cc]⟩, .slice ra R.length rc, vint du] w (fun v w' => v = .bool true ∧ Ext w w') := by
 obtain ⟨hnl, hpll, hLl, hLs, hPb⟩ := id hbg
 have hB := Below.refl w.heap.size w
 have hsz : w.heap.size ≤ w.heap.size := Nat.le_refl _
 refine ret_of_runs (args := [_, _, _]) Tryz.func11 rfl (Nat.le_of_ble_eq_true rfl) (by kernel_rfl) ?_
 refine r_seq (r_region' ?_)
 refine l_o (o_box rfl rfl rfl ?_)
 intro b1 w1 hzl1 hzr1 _ hb1 hE1
 have hbs_b1 : w.heap.size ≤ b1 := Nat.le_trans hsz hzl1
 replace hB := below_ext hB hE1 hsz
 replace hsz := Nat.le_trans hsz hE1.size
 refine l_q (q_assign (v := .bool _) rfl rfl) ?_
 refine l_nil (r_seq (r_seq (r_region' ?_)))
 refine l_q (q_load_agg (n := 3) Tryz.isAgg26 Tryz.sizeOf26 rfl ((hb1.cells' (cs' := [_, _, _]) 0 3 rfl)) rfl rfl) ?_
 refine l_o (o_call Tryz.call27 rfl (small_ret na nc nd pa pc pl ca cc L _ (hpo.below hB) hbg) rfl ?_)
 rintro _ w2 ⟨bb2, rfl, hsml, hE2⟩
 replace hB := below_ext hB hE2 hsz
 replace hb1 := hb1.ext hE2
 replace hsz := Nat.le_trans hsz hE2.size
 refine l_q (q_not rfl rfl) ?_
 refine l_q (q_move (v := .bool _) rfl rfl) ?_
 refine l_part 17 rfl (fun hc3 => ?_) (fun hc3 => ?_)
 ·
  replace hc3 := nt hc3
  refine l_q (q_skip rfl) ?_
  refine l_q (q_skip rfl) ?_
  refine l_q (q_skip rfl) ?_
  refine l_q (q_pick_t (v := .bool _) rfl rfl rfl) ?_
  refine l_nil ?_
  refine r_cond_t rfl ?_
  refine r_seq (r_region' ?_)
  refine l_o (o_call Tryz.call17 rfl (awake_ret _) rfl ?_)
  rintro _ w4 ⟨rfl, hE4⟩
  replace hB := below_ext hB hE4 hsz
  replace hb1 := hb1.ext hE4
  replace hsz := Nat.le_trans hsz hE4.size
  refine l_q (q_assign (v := .bool _) rfl rfl) ?_
  refine l_nil ?_
  refine r_forget [(6, .bool _)] ⟨rfl, trivial⟩ (fun e5 => ?_)
  refine r_ret_ (vs := [.bool _]) rfl Tryz.func11 rfl (.nil _) ⟨rfl, trivial⟩ ?_
  exact ⟨rfl, Ext.of_below hB⟩
 ·
  replace hc3 := nf hc3
  have hs0 := hsml hc3
  refine l_q (q_move (v := .slice _ _ _) rfl rfl) ?_
  refine l_o (o_call Tryz.call16 rfl (short_ret10 _ _ R _ (hR.below hB) (hRr.below hB) hRl hRx) rfl ?_)
  rintro _ w6 ⟨bb6, rfl, -, hE6⟩
  replace hB := below_ext hB hE6 hsz
  replace hb1 := hb1.ext hE6
  replace hsz := Nat.le_trans hsz hE6.size
  refine l_q (q_not rfl rfl) ?_
  refine l_q (q_pick_f (v := .bool _) rfl rfl rfl) ?_
  refine l_nil ?_
  refine r_cond rfl (fun hc7 => ?_) (fun hc7 => ?_)
  ·
   replace hc7 := nt hc7
   refine r_seq (r_region' ?_)
   refine l_o (o_call Tryz.call17 rfl (awake_ret _) rfl ?_)
   rintro _ w8 ⟨rfl, hE8⟩
   replace hB := below_ext hB hE8 hsz
   replace hb1 := hb1.ext hE8
   replace hsz := Nat.le_trans hsz hE8.size
   refine l_q (q_assign (v := .bool _) rfl rfl) ?_
   refine l_nil ?_
   refine r_forget [(6, .bool _)] ⟨rfl, trivial⟩ (fun e9 => ?_)
   refine r_ret_ (vs := [.bool _]) rfl Tryz.func11 rfl (.nil _) ⟨rfl, trivial⟩ ?_
   exact ⟨rfl, Ext.of_below hB⟩
  ·
   replace hc7 := nf hc7
   refine r_skip (r_seq (r_region' ?_))
   refine l_q (q_load_agg (n := 3) Tryz.isAgg26 Tryz.sizeOf26 rfl ((hb1.cells' (cs' := [_, _, _]) 0 3 rfl)) rfl rfl) ?_
   refine l_o (o_call Tryz.call19 rfl (post10_ret na nc nd pa pc pl ca cc L _ (hpo.below hB) hbg) rfl ?_)
   rintro _ w10 ⟨pna10, pnc10, ppa10, ppc10, ppl10, pca10, pcc10, pL10, rfl, hpo10, hpp10, hpL10, hE10⟩
   replace hB := below_ext hB hE10 hsz
   replace hb1 := hb1.ext hE10
   replace hsz := Nat.le_trans hsz hE10.size
   have hbg10 := post_big hpp10 hpL10 hbg
   refine l_o (o_call Tryz.call46 rfl ((by have h := best_ret pna10 pnc10 nd ppa10 ppc10 ppl10 pca10 pcc10 pL10 _ hpo10 hbg10.1 hbg10.2.1 hbg10.2.2.1 hbg10.2.2.2.1; rw [best_pn hpp10 hpL10] at h; exact h)) rfl ?_)
   rintro _ w11 ⟨ra11, rc11, R11, rfl, hRo11, hRs11, hRm11, hE11⟩
   replace hB := below_ext hB hE11 hsz
   replace hb1 := hb1.ext hE11
   replace hsz := Nat.le_trans hsz hE11.size
   have hR11 := Row.of_owns hRo11
   have hRr11 := hRs11.rows
   refine l_q (q_move (v := .tuple _) rfl rfl) ?_
   refine l_q (q_extract (vs := [_, _, _]) (v := .slice _ _ _) rfl rfl rfl) ?_
   refine l_q (q_extract (vs := [_, _, _]) (v := .int _ _) rfl rfl rfl) ?_
   refine l_q (q_extract (vs := [_, _, _]) (v := .int _ _) rfl rfl rfl) ?_
   refine l_q (q_assign (v := .slice _ _ _) rfl rfl) ?_
   refine l_q (q_assign (v := .int _ _) rfl rfl) ?_
   refine l_q (q_assign (v := .int _ _) rfl rfl) ?_
   refine l_nil ?_
   refine r_forget [(1, .slice _ _ _), (2, .int _ _), (3, .pointer _), (7, .slice _ _ _), (8, .int _ _), (9, .int _ _)] ⟨rfl, rfl, rfl, rfl, rfl, rfl, trivial⟩ (fun e12 => ?_)
   refine r_seq (r_region' ?_)
   refine l_q (q_load_agg (n := 3) Tryz.isAgg26 Tryz.sizeOf26 rfl ((hb1.cells' (cs' := [_, _, _]) 0 3 rfl)) rfl rfl) ?_
   refine l_o (o_call Tryz.call19 rfl (post10_ret na nc nd pa pc pl ca cc L _ (hpo.below hB) hbg) rfl ?_)
   rintro _ w13 ⟨pna13, pnc13, ppa13, ppc13, ppl13, pca13, pcc13, pL13, rfl, hpo13, hpp13, hpL13, hE13⟩
   replace hB := below_ext hB hE13 hsz
   replace hb1 := hb1.ext hE13
   replace hR11 := hR11.ext hE13
   replace hRr11 := hRr11.ext hE13
   replace hsz := Nat.le_trans hsz hE13.size
   have hbg13 := post_big hpp13 hpL13 hbg
   refine l_q (q_move (v := .slice _ _ _) rfl rfl) ?_
   refine l_o (o_call Tryz.call21 rfl (rows10_ret _ _ R _ (hR.below hB) (hRr.below hB) hRl hRx) rfl ?_)
   have hszp14 : w.heap.size ≤ w13.heap.size := hsz
   rintro _ w14 ⟨oa14, oc14, L14, rfl, ho14, hos14, hm14, hE14⟩
   replace ho14 := own_mono ho14 (show w.heap.size ≤ _ by omega)
   replace hB := below_ext hB hE14 hsz
   replace hb1 := hb1.ext hE14
   replace hR11 := hR11.ext hE14
   replace hRr11 := hRr11.ext hE14
   replace hpo13 := hpo13.ext hE14
   replace hsz := Nat.le_trans hsz hE14.size
   refine l_q (q_move (v := .int _ _) rfl rfl) ?_
   refine l_o (o_call Tryz.call51 rfl ((by have h := prove_ret pna13 pnc13 nd ppa13 ppc13 ppl13 pca13 pcc13 pL13 _ _ L14 du _ hpo13 hbg13.1 hbg13.2.1 hbg13.2.2.1 hbg13.2.2.2.1 (Row.of_owns ho14) hos14.rows (rows_same hm14 hRl hRx).1 (rows_same hm14 hRl hRx).2; rw [prove_eq, po_pn hpp13 hpL13, hpL13, hm14, proveX_pn hpp13] at h; exact h)) rfl ?_)
   rintro _ w15 ⟨rfl, hE15⟩
   replace hB := below_ext hB hE15 hsz
   replace hb1 := hb1.ext hE15
   replace hR11 := hR11.ext hE15
   replace hRr11 := hRr11.ext hE15
   replace hsz := Nat.le_trans hsz hE15.size
   refine l_q (q_assign (v := .bool _) rfl rfl) ?_
   refine l_nil (r_seq (r_seq (r_region' ?_)))
   refine l_q (q_move (v := .bool _) rfl rfl) ?_
   refine l_q (q_load_agg (n := 3) Tryz.isAgg26 Tryz.sizeOf26 rfl ((hb1.cells' (cs' := [_, _, _]) 0 3 rfl)) rfl rfl) ?_
   refine l_q (q_move (v := .slice _ _ _) rfl rfl) ?_
   refine l_o (o_call Tryz.call22 rfl (planned_ret na nc nd pa pc pl ca cc L _ _ R _ (hpo.below hB) hbg (hR.below hB) (hRr.below hB) hRl hRx) rfl ?_)
   rintro _ w16 ⟨rfl, hE16⟩
   replace hB := below_ext hB hE16 hsz
   replace hb1 := hb1.ext hE16
   replace hR11 := hR11.ext hE16
   replace hRr11 := hRr11.ext hE16
   replace hsz := Nat.le_trans hsz hE16.size
   refine l_q (q_eql rfl rfl rfl) ?_
   refine l_q (q_move (v := .bool _) rfl rfl) ?_
   refine l_part 41 rfl (fun hc17 => ?_) (fun hc17 => ?_)
   ·
    replace hc17 := dt hc17
    have hp := hc17
    obtain ⟨hok, hI⟩ := plan_IsR hp
    have hRn : R.length = nd.length := by have := hI.1; rwa [List.length_map] at this
    refine l_q (q_load_agg (n := 3) Tryz.isAgg26 Tryz.sizeOf26 rfl ((hb1.cells' (cs' := [_, _, _]) 0 3 rfl)) rfl rfl) ?_
    refine l_q (q_move (v := .slice _ _ _) rfl rfl) ?_
    refine l_o (o_call Tryz.call52 rfl (safe10_ret na nc nd pa pc pl ca cc L _ _ R _ (hpo.below hB) hok (hR.below hB) (hRr.below hB) hRl hRx (by omega) (plan_on hp)) rfl ?_)
    rintro _ w18 ⟨rfl, hE18⟩
    replace hB := below_ext hB hE18 hsz
    replace hb1 := hb1.ext hE18
    replace hR11 := hR11.ext hE18
    replace hRr11 := hRr11.ext hE18
    replace hsz := Nat.le_trans hsz hE18.size
    refine l_q (q_pick_t (v := .bool _) rfl rfl rfl) ?_
    refine l_q (q_move (v := .bool _) rfl rfl) ?_
    refine l_part 46 rfl (fun hc19 => ?_) (fun hc19 => ?_)
    ·
     have g46 := hc19
     refine l_q (q_move (v := .slice _ _ _) rfl rfl) ?_
     refine l_o (o_call Tryz.call53 rfl (duties10_ret _ _ R _ (hR.below hB) (hRr.below hB) hRl hRx) rfl ?_)
     rintro _ w20 ⟨rfl, hE20⟩
     replace hB := below_ext hB hE20 hsz
     replace hb1 := hb1.ext hE20
     replace hR11 := hR11.ext hE20
     replace hRr11 := hRr11.ext hE20
     replace hsz := Nat.le_trans hsz hE20.size
     refine l_q (q_move (v := .int _ _) rfl rfl) ?_
     refine l_q (q_leq rfl rfl rfl) ?_
     refine l_q (q_pick_t (v := .bool _) rfl rfl rfl) ?_
     refine l_q (q_neq_bool Tryz.underlying4 rfl rfl rfl) ?_
     refine l_nil ?_
     refine r_forget [(3, .pointer _), (7, .slice _ _ _), (8, .int _ _), (9, .int _ _), (52, .bool _)] ⟨rfl, rfl, rfl, rfl, rfl, trivial⟩ (fun e21 => ?_)
     have hk22 : (!((proveX nd pl (L.map (·.xs)) (planP (po nd pl L) (R.map (·.xs))) (R.map (·.xs)) du) == (decide ((dut (R.map (·.xs))) ≤ du)))) = false := by rw [prove_safe hp, g46]; simp
     refine r_cond_f ((congrArg Value.bool hk22 : Value.bool _ = _)) ?_
     refine r_skip (r_seq (r_region' ?_))
     refine l_q (q_load_agg (n := 3) Tryz.isAgg26 Tryz.sizeOf26 rfl ((hb1.cells' (cs' := [_, _, _]) 0 3 rfl)) rfl rfl) ?_
     refine l_o (o_call Tryz.call23 rfl (lfault10_ret na nc nd pa pc pl ca cc L _ (hpo.below hB) hbg) rfl ?_)
     rintro _ w23 ⟨rfl, hE23⟩
     replace hB := below_ext hB hE23 hsz
     replace hb1 := hb1.ext hE23
     replace hR11 := hR11.ext hE23
     replace hRr11 := hRr11.ext hE23
     replace hsz := Nat.le_trans hsz hE23.size
     refine l_q (q_assign (v := .int _ _) rfl rfl) ?_
     refine l_nil (r_seq (r_region' ?_))
     refine l_q (q_assign (v := .slice _ _ _) rfl rfl) ?_
     refine l_nil (r_seq (r_seq (r_region' ?_)))
     refine l_q (q_move (v := .int _ _) rfl rfl) ?_
     refine l_q (q_eql rfl rfl rfl) ?_
     refine l_nil ?_
     refine r_cond rfl (fun hc24 => ?_) (fun hc24 => ?_)
     ·
      replace hc24 := dt hc24
      have hok : faultP (po nd pl L) = 0 := hc24
      have hsm := hs0 hok
      obtain ⟨⟨hn1, hn5⟩, ⟨hp1, hp4⟩, hL4, hnn, hpp, hLL⟩ := po_ok hok
      obtain ⟨N, hN, hN16, hNn⟩ := two_pow hp4
      have hRs := rows_small hRm11 (bestR_small hok)
      refine r_seq (r_region' ?_)
      refine l_q (q_assign (v := .bool _) rfl rfl) ?_
      refine l_nil (r_seq (r_region' ?_))
      refine l_q (q_load_agg (n := 3) Tryz.isAgg26 Tryz.sizeOf26 rfl ((hb1.cells' (cs' := [_, _, _]) 0 3 rfl)) rfl rfl) ?_
      refine l_q (q_fieldAddr (o' := 1) rfl fld26_1 rfl) ?_
      refine l_q (q_load Tryz.isAgg23 rfl ((hb1.has (o := 1) rfl)) rfl) ?_
      refine l_q (q_len rfl Tryz.underlying23 rfl rfl) ?_
      refine l_q (q_toUint Tryz.underlying3 Tryz.underlying75 rfl (by omega) rfl) ?_
      refine l_q (q_shl rfl rfl (by omega) (by omega) rfl) ?_
      refine l_q (q_sub rfl rfl (by omega) rfl) ?_
      refine l_o (o_call Tryz.call54 rfl ((by have h := best10_ret na nc nd pa pc pl ca cc L (2 ^ pl.length - 1) _ (hpo.below hB) hok hsm (so_small hp4); rw [so_eq] at h; exact h)) rfl ?_)
      rintro _ w25 ⟨ba, bc, B, rfl, hBw, hBr, hBm, hE25⟩
      replace hB := below_ext hB hE25 hsz
      replace hb1 := hb1.ext hE25
      replace hR11 := hR11.ext hE25
      replace hRr11 := hRr11.ext hE25
      replace hsz := Nat.le_trans hsz hE25.size
      have hBs := best_small hok hBm
      refine l_q (q_move (v := .tuple _) rfl rfl) ?_
      refine l_q (q_extract (vs := [_, _]) (v := .slice _ _ _) rfl rfl rfl) ?_
      refine l_q (q_extract (vs := [_, _]) (v := .bool _) rfl rfl rfl) ?_
      refine l_q (q_assign (v := .slice _ _ _) rfl rfl) ?_
      refine l_q (q_assign (v := .bool _) rfl rfl) ?_
      refine l_nil ?_
      refine r_forget [(7, .slice _ _ _), (8, .int _ _), (9, .int _ _), (11, .int _ _), (12, .slice _ _ _), (13, .bool _)] ⟨rfl, rfl, rfl, rfl, rfl, rfl, trivial⟩ (fun e26 => ?_)
      refine r_seq (r_region' ?_)
      refine l_q (q_move (v := .bool _) rfl rfl) ?_
      refine l_q (q_not rfl rfl) ?_
      refine l_nil ?_
      refine r_cond rfl (fun hc27 => ?_) (fun hc27 => ?_)
      ·
       replace hc27 := df (nt hc27)
       have hbR := bestN_none hok hBm hc27
       refine r_region' ?_
       refine l_q (q_assign (v := .int _ _) rfl rfl) ?_
       refine l_nil (r_seq (r_region' ?_))
       refine l_q (q_move (v := .int _ _) rfl rfl) ?_
       refine l_q (q_move (v := .int _ _) rfl rfl) ?_
       refine l_q (q_eql rfl rfl rfl) ?_
       refine l_q (q_move (v := .bool _) rfl rfl) ?_
       have hk28 : (decide (((bestR nd pl L).2.2) = 10)) = true := decide_eq_true (by rw [hbR] <;> first | rfl | exact hok.symm)
       refine l_part 73 rfl (fun _ => ?_) (fun hx => absurd (hk28.symm.trans hx) (by decide))
       refine l_q (q_move (v := .slice _ _ _) rfl rfl) ?_
       refine l_q (q_move (v := .slice _ _ _) rfl rfl) ?_
       refine l_o (o_call Tryz.call55 rfl (lsame10_ret _ _ R11 _ _ B _ hR11 hRr11 hRs.1 hRs.2 hBw hBr hBs.1 hBs.2) rfl ?_)
       rintro _ w29 ⟨rfl, hE29⟩
       replace hB := below_ext hB hE29 hsz
       replace hb1 := hb1.ext hE29
       replace hR11 := hR11.ext hE29
       replace hRr11 := hRr11.ext hE29
       replace hBw := hBw.ext hE29
       replace hBr := hBr.ext hE29
       replace hsz := Nat.le_trans hsz hE29.size
       refine l_q (q_pick_t (v := .bool _) rfl rfl rfl) ?_
       refine l_q (q_move (v := .bool _) rfl rfl) ?_
       have hk30 : (decide (R11.map (·.xs) = B.map (·.xs))) = true := decide_eq_true (by rw [hRm11, hbR])
       refine l_part 78 rfl (fun _ => ?_) (fun hx => absurd (hk30.symm.trans hx) (by decide))
       refine l_q (q_move (v := .int _ _) rfl rfl) ?_
       refine l_q (q_move (v := .slice _ _ _) rfl rfl) ?_
       refine l_o (o_call Tryz.call53 rfl (duties10_ret _ _ B _ hBw hBr hBs.1 hBs.2) rfl ?_)
       rintro _ w31 ⟨rfl, hE31⟩
       replace hB := below_ext hB hE31 hsz
       replace hb1 := hb1.ext hE31
       replace hR11 := hR11.ext hE31
       replace hRr11 := hRr11.ext hE31
       replace hBw := hBw.ext hE31
       replace hBr := hBr.ext hE31
       replace hsz := Nat.le_trans hsz hE31.size
       refine l_q (q_eql rfl rfl rfl) ?_
       refine l_q (q_pick_t (v := .bool _) rfl rfl rfl) ?_
       refine l_q (q_move (v := .bool _) rfl rfl) ?_
       have hk32 : (decide (((bestR nd pl L).2.1) = (dut (B.map (·.xs))))) = true := decide_eq_true (by rw [hbR] <;> first | rfl | exact hok.symm)
       refine l_part 84 rfl (fun _ => ?_) (fun hx => absurd (hk32.symm.trans hx) (by decide))
       refine l_o (o_call Tryz.call17 rfl (awake_ret _) rfl ?_)
       rintro _ w33 ⟨rfl, hE33⟩
       replace hB := below_ext hB hE33 hsz
       replace hb1 := hb1.ext hE33
       replace hR11 := hR11.ext hE33
       replace hRr11 := hRr11.ext hE33
       replace hBw := hBw.ext hE33
       replace hBr := hBr.ext hE33
       replace hsz := Nat.le_trans hsz hE33.size
       refine l_q (q_pick_t (v := .bool _) rfl rfl rfl) ?_
       refine l_q (q_assign (v := .bool _) rfl rfl) ?_
       refine l_nil ?_
       refine r_forget [(6, .bool _)] ⟨rfl, trivial⟩ (fun e34 => ?_)
       refine r_ret_ (vs := [.bool _]) rfl Tryz.func11 rfl (.nil _) ⟨rfl, trivial⟩ ?_
       exact ⟨rfl, Ext.of_below hB⟩
      ·
       replace hc27 := dt (nf hc27)
       have hbR := bestN_some hok hBm hc27
       refine r_skip (r_seq (r_region' ?_))
       refine l_q (q_move (v := .int _ _) rfl rfl) ?_
       refine l_q (q_move (v := .int _ _) rfl rfl) ?_
       refine l_q (q_eql rfl rfl rfl) ?_
       refine l_q (q_move (v := .bool _) rfl rfl) ?_
       have hk35 : (decide (((bestR nd pl L).2.2) = (faultP (po nd pl L)))) = true := decide_eq_true (by rw [hbR] <;> first | rfl | exact hok.symm)
       refine l_part 73 rfl (fun _ => ?_) (fun hx => absurd (hk35.symm.trans hx) (by decide))
       refine l_q (q_move (v := .slice _ _ _) rfl rfl) ?_
       refine l_q (q_move (v := .slice _ _ _) rfl rfl) ?_
       refine l_o (o_call Tryz.call55 rfl (lsame10_ret _ _ R11 _ _ B _ hR11 hRr11 hRs.1 hRs.2 hBw hBr hBs.1 hBs.2) rfl ?_)
       rintro _ w36 ⟨rfl, hE36⟩
       replace hB := below_ext hB hE36 hsz
       replace hb1 := hb1.ext hE36
       replace hR11 := hR11.ext hE36
       replace hRr11 := hRr11.ext hE36
       replace hBw := hBw.ext hE36
       replace hBr := hBr.ext hE36
       replace hsz := Nat.le_trans hsz hE36.size
       refine l_q (q_pick_t (v := .bool _) rfl rfl rfl) ?_
       refine l_q (q_move (v := .bool _) rfl rfl) ?_
       have hk37 : (decide (R11.map (·.xs) = B.map (·.xs))) = true := decide_eq_true (by rw [hRm11, hbR])
       refine l_part 78 rfl (fun _ => ?_) (fun hx => absurd (hk37.symm.trans hx) (by decide))
       refine l_q (q_move (v := .int _ _) rfl rfl) ?_
       refine l_q (q_move (v := .slice _ _ _) rfl rfl) ?_
       refine l_o (o_call Tryz.call53 rfl (duties10_ret _ _ B _ hBw hBr hBs.1 hBs.2) rfl ?_)
       rintro _ w38 ⟨rfl, hE38⟩
       replace hB := below_ext hB hE38 hsz
       replace hb1 := hb1.ext hE38
       replace hR11 := hR11.ext hE38
       replace hRr11 := hRr11.ext hE38
       replace hBw := hBw.ext hE38
       replace hBr := hBr.ext hE38
       replace hsz := Nat.le_trans hsz hE38.size
       refine l_q (q_eql rfl rfl rfl) ?_
       refine l_q (q_pick_t (v := .bool _) rfl rfl rfl) ?_
       refine l_q (q_move (v := .bool _) rfl rfl) ?_
       have hk39 : (decide (((bestR nd pl L).2.1) = (dut (B.map (·.xs))))) = true := decide_eq_true (by rw [hbR] <;> first | rfl | exact hok.symm)
       refine l_part 84 rfl (fun _ => ?_) (fun hx => absurd (hk39.symm.trans hx) (by decide))
       refine l_o (o_call Tryz.call17 rfl (awake_ret _) rfl ?_)
       rintro _ w40 ⟨rfl, hE40⟩
       replace hB := below_ext hB hE40 hsz
       replace hb1 := hb1.ext hE40
       replace hR11 := hR11.ext hE40
       replace hRr11 := hRr11.ext hE40
       replace hBw := hBw.ext hE40
       replace hBr := hBr.ext hE40
       replace hsz := Nat.le_trans hsz hE40.size
       refine l_q (q_pick_t (v := .bool _) rfl rfl rfl) ?_
       refine l_q (q_assign (v := .bool _) rfl rfl) ?_
       refine l_nil ?_
       refine r_forget [(6, .bool _)] ⟨rfl, trivial⟩ (fun e41 => ?_)
       refine r_ret_ (vs := [.bool _]) rfl Tryz.func11 rfl (.nil _) ⟨rfl, trivial⟩ ?_
       exact ⟨rfl, Ext.of_below hB⟩
     ·
      replace hc24 := df hc24
      have hf := hc24
      have hbR := best_err (L := L) hf
      have hRs := rows_small (hRm11.trans (congrArg (·.1) hbR)) ⟨Nat.zero_le _, by simp⟩
      refine r_skip (r_seq (r_region' ?_))
      refine l_q (q_move (v := .int _ _) rfl rfl) ?_
      refine l_q (q_move (v := .int _ _) rfl rfl) ?_
      refine l_q (q_eql rfl rfl rfl) ?_
      refine l_q (q_move (v := .bool _) rfl rfl) ?_
      have hk42 : (decide (((bestR nd pl L).2.2) = (faultP (po nd pl L)))) = true := decide_eq_true (by rw [hbR] <;> first | rfl | exact hok.symm)
      refine l_part 73 rfl (fun _ => ?_) (fun hx => absurd (hk42.symm.trans hx) (by decide))
      refine l_q (q_move (v := .slice _ _ _) rfl rfl) ?_
      refine l_q (q_move (v := .slice _ _ _) rfl rfl) ?_
      refine l_o (o_call Tryz.call55 rfl (lsame10_ret _ _ R11 none 0 [] _ hR11 hRr11 hRs.1 hRs.2 (Row.nil _ _ _ _) (RowsI.nil _) (by decide) (by simp)) rfl ?_)
      rintro _ w43 ⟨rfl, hE43⟩
      replace hB := below_ext hB hE43 hsz
      replace hb1 := hb1.ext hE43
      replace hR11 := hR11.ext hE43
      replace hRr11 := hRr11.ext hE43
      replace hsz := Nat.le_trans hsz hE43.size
      refine l_q (q_pick_t (v := .bool _) rfl rfl rfl) ?_
      refine l_q (q_move (v := .bool _) rfl rfl) ?_
      have hk44 : (decide (R11.map (·.xs) = [])) = true := decide_eq_true (by rw [hRm11, hbR])
      refine l_part 78 rfl (fun _ => ?_) (fun hx => absurd (hk44.symm.trans hx) (by decide))
      refine l_q (q_move (v := .int _ _) rfl rfl) ?_
      refine l_q (q_move (v := .slice _ _ _) rfl rfl) ?_
      refine l_o (o_call Tryz.call53 rfl (duties10_ret none 0 [] _ (Row.nil _ _ _ _) (RowsI.nil _) (by decide) (by simp)) rfl ?_)
      rintro _ w45 ⟨rfl, hE45⟩
      replace hB := below_ext hB hE45 hsz
      replace hb1 := hb1.ext hE45
      replace hR11 := hR11.ext hE45
      replace hRr11 := hRr11.ext hE45
      replace hsz := Nat.le_trans hsz hE45.size
      refine l_q (q_eql rfl rfl rfl) ?_
      refine l_q (q_pick_t (v := .bool _) rfl rfl rfl) ?_
      refine l_q (q_move (v := .bool _) rfl rfl) ?_
      have hk46 : (decide (((bestR nd pl L).2.1) = (dut []))) = true := decide_eq_true (by rw [hbR] <;> first | rfl | exact hok.symm)
      refine l_part 84 rfl (fun _ => ?_) (fun hx => absurd (hk46.symm.trans hx) (by decide))
      refine l_o (o_call Tryz.call17 rfl (awake_ret _) rfl ?_)
      rintro _ w47 ⟨rfl, hE47⟩
      replace hB := below_ext hB hE47 hsz
      replace hb1 := hb1.ext hE47
      replace hR11 := hR11.ext hE47
      replace hRr11 := hRr11.ext hE47
      replace hsz := Nat.le_trans hsz hE47.size
      refine l_q (q_pick_t (v := .bool _) rfl rfl rfl) ?_
      refine l_q (q_assign (v := .bool _) rfl rfl) ?_
      refine l_nil ?_
      refine r_forget [(6, .bool _)] ⟨rfl, trivial⟩ (fun e48 => ?_)
      refine r_ret_ (vs := [.bool _]) rfl Tryz.func11 rfl (.nil _) ⟨rfl, trivial⟩ ?_
      exact ⟨rfl, Ext.of_below hB⟩
    ·
     have g46 := hc19
     refine l_q (q_skip rfl) ?_
     refine l_q (q_skip rfl) ?_
     refine l_q (q_skip rfl) ?_
     refine l_q (q_skip rfl) ?_
     refine l_q (q_pick_f (v := .bool _) rfl rfl rfl) ?_
     refine l_q (q_neq_bool Tryz.underlying4 rfl rfl rfl) ?_
     refine l_nil ?_
     refine r_forget [(3, .pointer _), (7, .slice _ _ _), (8, .int _ _), (9, .int _ _), (52, .bool _)] ⟨rfl, rfl, rfl, rfl, rfl, trivial⟩ (fun e49 => ?_)
     have hk50 : (!((proveX nd pl (L.map (·.xs)) (planP (po nd pl L) (R.map (·.xs))) (R.map (·.xs)) du) == false)) = false := by rw [prove_safe hp, g46]; simp
     refine r_cond_f ((congrArg Value.bool hk50 : Value.bool _ = _)) ?_
     refine r_skip (r_seq (r_region' ?_))
     refine l_q (q_load_agg (n := 3) Tryz.isAgg26 Tryz.sizeOf26 rfl ((hb1.cells' (cs' := [_, _, _]) 0 3 rfl)) rfl rfl) ?_
     refine l_o (o_call Tryz.call23 rfl (lfault10_ret na nc nd pa pc pl ca cc L _ (hpo.below hB) hbg) rfl ?_)
     rintro _ w51 ⟨rfl, hE51⟩
     replace hB := below_ext hB hE51 hsz
     replace hb1 := hb1.ext hE51
     replace hR11 := hR11.ext hE51
     replace hRr11 := hRr11.ext hE51
     replace hsz := Nat.le_trans hsz hE51.size
     refine l_q (q_assign (v := .int _ _) rfl rfl) ?_
     refine l_nil (r_seq (r_region' ?_))
     refine l_q (q_assign (v := .slice _ _ _) rfl rfl) ?_
     refine l_nil (r_seq (r_seq (r_region' ?_)))
     refine l_q (q_move (v := .int _ _) rfl rfl) ?_
     refine l_q (q_eql rfl rfl rfl) ?_
     refine l_nil ?_
     refine r_cond rfl (fun hc52 => ?_) (fun hc52 => ?_)
     ·
      replace hc52 := dt hc52
      have hok : faultP (po nd pl L) = 0 := hc52
      have hsm := hs0 hok
      obtain ⟨⟨hn1, hn5⟩, ⟨hp1, hp4⟩, hL4, hnn, hpp, hLL⟩ := po_ok hok
      obtain ⟨N, hN, hN16, hNn⟩ := two_pow hp4
      have hRs := rows_small hRm11 (bestR_small hok)
      refine r_seq (r_region' ?_)
      refine l_q (q_assign (v := .bool _) rfl rfl) ?_
      refine l_nil (r_seq (r_region' ?_))
      refine l_q (q_load_agg (n := 3) Tryz.isAgg26 Tryz.sizeOf26 rfl ((hb1.cells' (cs' := [_, _, _]) 0 3 rfl)) rfl rfl) ?_
      refine l_q (q_fieldAddr (o' := 1) rfl fld26_1 rfl) ?_
      refine l_q (q_load Tryz.isAgg23 rfl ((hb1.has (o := 1) rfl)) rfl) ?_
      refine l_q (q_len rfl Tryz.underlying23 rfl rfl) ?_
      refine l_q (q_toUint Tryz.underlying3 Tryz.underlying75 rfl (by omega) rfl) ?_
      refine l_q (q_shl rfl rfl (by omega) (by omega) rfl) ?_
      refine l_q (q_sub rfl rfl (by omega) rfl) ?_
      refine l_o (o_call Tryz.call54 rfl ((by have h := best10_ret na nc nd pa pc pl ca cc L (2 ^ pl.length - 1) _ (hpo.below hB) hok hsm (so_small hp4); rw [so_eq] at h; exact h)) rfl ?_)
      rintro _ w53 ⟨ba, bc, B, rfl, hBw, hBr, hBm, hE53⟩
      replace hB := below_ext hB hE53 hsz
      replace hb1 := hb1.ext hE53
      replace hR11 := hR11.ext hE53
      replace hRr11 := hRr11.ext hE53
      replace hsz := Nat.le_trans hsz hE53.size
      have hBs := best_small hok hBm
      refine l_q (q_move (v := .tuple _) rfl rfl) ?_
      refine l_q (q_extract (vs := [_, _]) (v := .slice _ _ _) rfl rfl rfl) ?_
      refine l_q (q_extract (vs := [_, _]) (v := .bool _) rfl rfl rfl) ?_
      refine l_q (q_assign (v := .slice _ _ _) rfl rfl) ?_
      refine l_q (q_assign (v := .bool _) rfl rfl) ?_
      refine l_nil ?_
      refine r_forget [(7, .slice _ _ _), (8, .int _ _), (9, .int _ _), (11, .int _ _), (12, .slice _ _ _), (13, .bool _)] ⟨rfl, rfl, rfl, rfl, rfl, rfl, trivial⟩ (fun e54 => ?_)
      refine r_seq (r_region' ?_)
      refine l_q (q_move (v := .bool _) rfl rfl) ?_
      refine l_q (q_not rfl rfl) ?_
      refine l_nil ?_
      refine r_cond rfl (fun hc55 => ?_) (fun hc55 => ?_)
      ·
       replace hc55 := df (nt hc55)
       have hbR := bestN_none hok hBm hc55
       refine r_region' ?_
       refine l_q (q_assign (v := .int _ _) rfl rfl) ?_
       refine l_nil (r_seq (r_region' ?_))
       refine l_q (q_move (v := .int _ _) rfl rfl) ?_
       refine l_q (q_move (v := .int _ _) rfl rfl) ?_
       refine l_q (q_eql rfl rfl rfl) ?_
       refine l_q (q_move (v := .bool _) rfl rfl) ?_
       have hk56 : (decide (((bestR nd pl L).2.2) = 10)) = true := decide_eq_true (by rw [hbR] <;> first | rfl | exact hok.symm)
       refine l_part 73 rfl (fun _ => ?_) (fun hx => absurd (hk56.symm.trans hx) (by decide))
       refine l_q (q_move (v := .slice _ _ _) rfl rfl) ?_
       refine l_q (q_move (v := .slice _ _ _) rfl rfl) ?_
       refine l_o (o_call Tryz.call55 rfl (lsame10_ret _ _ R11 _ _ B _ hR11 hRr11 hRs.1 hRs.2 hBw hBr hBs.1 hBs.2) rfl ?_)
       rintro _ w57 ⟨rfl, hE57⟩
       replace hB := below_ext hB hE57 hsz
       replace hb1 := hb1.ext hE57
       replace hR11 := hR11.ext hE57
       replace hRr11 := hRr11.ext hE57
       replace hBw := hBw.ext hE57
       replace hBr := hBr.ext hE57
       replace hsz := Nat.le_trans hsz hE57.size
       refine l_q (q_pick_t (v := .bool _) rfl rfl rfl) ?_
       refine l_q (q_move (v := .bool _) rfl rfl) ?_
       have hk58 : (decide (R11.map (·.xs) = B.map (·.xs))) = true := decide_eq_true (by rw [hRm11, hbR])
       refine l_part 78 rfl (fun _ => ?_) (fun hx => absurd (hk58.symm.trans hx) (by decide))
       refine l_q (q_move (v := .int _ _) rfl rfl) ?_
       refine l_q (q_move (v := .slice _ _ _) rfl rfl) ?_
       refine l_o (o_call Tryz.call53 rfl (duties10_ret _ _ B _ hBw hBr hBs.1 hBs.2) rfl ?_)
       rintro _ w59 ⟨rfl, hE59⟩
       replace hB := below_ext hB hE59 hsz
       replace hb1 := hb1.ext hE59
       replace hR11 := hR11.ext hE59
       replace hRr11 := hRr11.ext hE59
       replace hBw := hBw.ext hE59
       replace hBr := hBr.ext hE59
       replace hsz := Nat.le_trans hsz hE59.size
       refine l_q (q_eql rfl rfl rfl) ?_
       refine l_q (q_pick_t (v := .bool _) rfl rfl rfl) ?_
       refine l_q (q_move (v := .bool _) rfl rfl) ?_
       have hk60 : (decide (((bestR nd pl L).2.1) = (dut (B.map (·.xs))))) = true := decide_eq_true (by rw [hbR] <;> first | rfl | exact hok.symm)
       refine l_part 84 rfl (fun _ => ?_) (fun hx => absurd (hk60.symm.trans hx) (by decide))
       refine l_o (o_call Tryz.call17 rfl (awake_ret _) rfl ?_)
       rintro _ w61 ⟨rfl, hE61⟩
       replace hB := below_ext hB hE61 hsz
       replace hb1 := hb1.ext hE61
       replace hR11 := hR11.ext hE61
       replace hRr11 := hRr11.ext hE61
       replace hBw := hBw.ext hE61
       replace hBr := hBr.ext hE61
       replace hsz := Nat.le_trans hsz hE61.size
       refine l_q (q_pick_t (v := .bool _) rfl rfl rfl) ?_
       refine l_q (q_assign (v := .bool _) rfl rfl) ?_
       refine l_nil ?_
       refine r_forget [(6, .bool _)] ⟨rfl, trivial⟩ (fun e62 => ?_)
       refine r_ret_ (vs := [.bool _]) rfl Tryz.func11 rfl (.nil _) ⟨rfl, trivial⟩ ?_
       exact ⟨rfl, Ext.of_below hB⟩
      ·
       replace hc55 := dt (nf hc55)
       have hbR := bestN_some hok hBm hc55
       refine r_skip (r_seq (r_region' ?_))
       refine l_q (q_move (v := .int _ _) rfl rfl) ?_
       refine l_q (q_move (v := .int _ _) rfl rfl) ?_
       refine l_q (q_eql rfl rfl rfl) ?_
       refine l_q (q_move (v := .bool _) rfl rfl) ?_
       have hk63 : (decide (((bestR nd pl L).2.2) = (faultP (po nd pl L)))) = true := decide_eq_true (by rw [hbR] <;> first | rfl | exact hok.symm)
       refine l_part 73 rfl (fun _ => ?_) (fun hx => absurd (hk63.symm.trans hx) (by decide))
       refine l_q (q_move (v := .slice _ _ _) rfl rfl) ?_
       refine l_q (q_move (v := .slice _ _ _) rfl rfl) ?_
       refine l_o (o_call Tryz.call55 rfl (lsame10_ret _ _ R11 _ _ B _ hR11 hRr11 hRs.1 hRs.2 hBw hBr hBs.1 hBs.2) rfl ?_)
       rintro _ w64 ⟨rfl, hE64⟩
       replace hB := below_ext hB hE64 hsz
       replace hb1 := hb1.ext hE64
       replace hR11 := hR11.ext hE64
       replace hRr11 := hRr11.ext hE64
       replace hBw := hBw.ext hE64
       replace hBr := hBr.ext hE64
       replace hsz := Nat.le_trans hsz hE64.size
       refine l_q (q_pick_t (v := .bool _) rfl rfl rfl) ?_
       refine l_q (q_move (v := .bool _) rfl rfl) ?_
       have hk65 : (decide (R11.map (·.xs) = B.map (·.xs))) = true := decide_eq_true (by rw [hRm11, hbR])
       refine l_part 78 rfl (fun _ => ?_) (fun hx => absurd (hk65.symm.trans hx) (by decide))
       refine l_q (q_move (v := .int _ _) rfl rfl) ?_
       refine l_q (q_move (v := .slice _ _ _) rfl rfl) ?_
       refine l_o (o_call Tryz.call53 rfl (duties10_ret _ _ B _ hBw hBr hBs.1 hBs.2) rfl ?_)
       rintro _ w66 ⟨rfl, hE66⟩
       replace hB := below_ext hB hE66 hsz
       replace hb1 := hb1.ext hE66
       replace hR11 := hR11.ext hE66
       replace hRr11 := hRr11.ext hE66
       replace hBw := hBw.ext hE66
       replace hBr := hBr.ext hE66
       replace hsz := Nat.le_trans hsz hE66.size
       refine l_q (q_eql rfl rfl rfl) ?_
       refine l_q (q_pick_t (v := .bool _) rfl rfl rfl) ?_
       refine l_q (q_move (v := .bool _) rfl rfl) ?_
       have hk67 : (decide (((bestR nd pl L).2.1) = (dut (B.map (·.xs))))) = true := decide_eq_true (by rw [hbR] <;> first | rfl | exact hok.symm)
       refine l_part 84 rfl (fun _ => ?_) (fun hx => absurd (hk67.symm.trans hx) (by decide))
       refine l_o (o_call Tryz.call17 rfl (awake_ret _) rfl ?_)
       rintro _ w68 ⟨rfl, hE68⟩
       replace hB := below_ext hB hE68 hsz
       replace hb1 := hb1.ext hE68
       replace hR11 := hR11.ext hE68
       replace hRr11 := hRr11.ext hE68
       replace hBw := hBw.ext hE68
       replace hBr := hBr.ext hE68
       replace hsz := Nat.le_trans hsz hE68.size
       refine l_q (q_pick_t (v := .bool _) rfl rfl rfl) ?_
       refine l_q (q_assign (v := .bool _) rfl rfl) ?_
       refine l_nil ?_
       refine r_forget [(6, .bool _)] ⟨rfl, trivial⟩ (fun e69 => ?_)
       refine r_ret_ (vs := [.bool _]) rfl Tryz.func11 rfl (.nil _) ⟨rfl, trivial⟩ ?_
       exact ⟨rfl, Ext.of_below hB⟩
     ·
      replace hc52 := df hc52
      have hf := hc52
      have hbR := best_err (L := L) hf
      have hRs := rows_small (hRm11.trans (congrArg (·.1) hbR)) ⟨Nat.zero_le _, by simp⟩
      refine r_skip (r_seq (r_region' ?_))
      refine l_q (q_move (v := .int _ _) rfl rfl) ?_
      refine l_q (q_move (v := .int _ _) rfl rfl) ?_
      refine l_q (q_eql rfl rfl rfl) ?_
      refine l_q (q_move (v := .bool _) rfl rfl) ?_
      have hk70 : (decide (((bestR nd pl L).2.2) = (faultP (po nd pl L)))) = true := decide_eq_true (by rw [hbR] <;> first | rfl | exact hok.symm)
      refine l_part 73 rfl (fun _ => ?_) (fun hx => absurd (hk70.symm.trans hx) (by decide))
      refine l_q (q_move (v := .slice _ _ _) rfl rfl) ?_
      refine l_q (q_move (v := .slice _ _ _) rfl rfl) ?_
      refine l_o (o_call Tryz.call55 rfl (lsame10_ret _ _ R11 none 0 [] _ hR11 hRr11 hRs.1 hRs.2 (Row.nil _ _ _ _) (RowsI.nil _) (by decide) (by simp)) rfl ?_)
      rintro _ w71 ⟨rfl, hE71⟩
      replace hB := below_ext hB hE71 hsz
      replace hb1 := hb1.ext hE71
      replace hR11 := hR11.ext hE71
      replace hRr11 := hRr11.ext hE71
      replace hsz := Nat.le_trans hsz hE71.size
      refine l_q (q_pick_t (v := .bool _) rfl rfl rfl) ?_
      refine l_q (q_move (v := .bool _) rfl rfl) ?_
      have hk72 : (decide (R11.map (·.xs) = [])) = true := decide_eq_true (by rw [hRm11, hbR])
      refine l_part 78 rfl (fun _ => ?_) (fun hx => absurd (hk72.symm.trans hx) (by decide))
      refine l_q (q_move (v := .int _ _) rfl rfl) ?_
      refine l_q (q_move (v := .slice _ _ _) rfl rfl) ?_
      refine l_o (o_call Tryz.call53 rfl (duties10_ret none 0 [] _ (Row.nil _ _ _ _) (RowsI.nil _) (by decide) (by simp)) rfl ?_)
      rintro _ w73 ⟨rfl, hE73⟩
      replace hB := below_ext hB hE73 hsz
      replace hb1 := hb1.ext hE73
      replace hR11 := hR11.ext hE73
      replace hRr11 := hRr11.ext hE73
      replace hsz := Nat.le_trans hsz hE73.size
      refine l_q (q_eql rfl rfl rfl) ?_
      refine l_q (q_pick_t (v := .bool _) rfl rfl rfl) ?_
      refine l_q (q_move (v := .bool _) rfl rfl) ?_
      have hk74 : (decide (((bestR nd pl L).2.1) = (dut []))) = true := decide_eq_true (by rw [hbR] <;> first | rfl | exact hok.symm)
      refine l_part 84 rfl (fun _ => ?_) (fun hx => absurd (hk74.symm.trans hx) (by decide))
      refine l_o (o_call Tryz.call17 rfl (awake_ret _) rfl ?_)
      rintro _ w75 ⟨rfl, hE75⟩
      replace hB := below_ext hB hE75 hsz
      replace hb1 := hb1.ext hE75
      replace hR11 := hR11.ext hE75
      replace hRr11 := hRr11.ext hE75
      replace hsz := Nat.le_trans hsz hE75.size
      refine l_q (q_pick_t (v := .bool _) rfl rfl rfl) ?_
      refine l_q (q_assign (v := .bool _) rfl rfl) ?_
      refine l_nil ?_
      refine r_forget [(6, .bool _)] ⟨rfl, trivial⟩ (fun e76 => ?_)
      refine r_ret_ (vs := [.bool _]) rfl Tryz.func11 rfl (.nil _) ⟨rfl, trivial⟩ ?_
      exact ⟨rfl, Ext.of_below hB⟩
   ·
    replace hc17 := df hc17
    have hp := hc17
    refine l_q (q_skip rfl) ?_
    refine l_q (q_skip rfl) ?_
    refine l_q (q_skip rfl) ?_
    refine l_q (q_pick_f (v := .bool _) rfl rfl rfl) ?_
    refine l_q (q_move (v := .bool _) rfl rfl) ?_
    refine l_q (q_skip rfl) ?_
    refine l_q (q_skip rfl) ?_
    refine l_q (q_skip rfl) ?_
    refine l_q (q_skip rfl) ?_
    refine l_q (q_pick_f (v := .bool _) rfl rfl rfl) ?_
    refine l_q (q_neq_bool Tryz.underlying4 rfl rfl rfl) ?_
    refine l_nil ?_
    refine r_forget [(3, .pointer _), (7, .slice _ _ _), (8, .int _ _), (9, .int _ _), (52, .bool _)] ⟨rfl, rfl, rfl, rfl, rfl, trivial⟩ (fun e77 => ?_)
    have hk78 : (!((proveX nd pl (L.map (·.xs)) (planP (po nd pl L) (R.map (·.xs))) (R.map (·.xs)) du) == false)) = false := by rw [prove_plan hp]; rfl
    refine r_cond_f ((congrArg Value.bool hk78 : Value.bool _ = _)) ?_
    refine r_skip (r_seq (r_region' ?_))
    refine l_q (q_load_agg (n := 3) Tryz.isAgg26 Tryz.sizeOf26 rfl ((hb1.cells' (cs' := [_, _, _]) 0 3 rfl)) rfl rfl) ?_
    refine l_o (o_call Tryz.call23 rfl (lfault10_ret na nc nd pa pc pl ca cc L _ (hpo.below hB) hbg) rfl ?_)
    rintro _ w79 ⟨rfl, hE79⟩
    replace hB := below_ext hB hE79 hsz
    replace hb1 := hb1.ext hE79
    replace hR11 := hR11.ext hE79
    replace hRr11 := hRr11.ext hE79
    replace hsz := Nat.le_trans hsz hE79.size
    refine l_q (q_assign (v := .int _ _) rfl rfl) ?_
    refine l_nil (r_seq (r_region' ?_))
    refine l_q (q_assign (v := .slice _ _ _) rfl rfl) ?_
    refine l_nil (r_seq (r_seq (r_region' ?_)))
    refine l_q (q_move (v := .int _ _) rfl rfl) ?_
    refine l_q (q_eql rfl rfl rfl) ?_
    refine l_nil ?_
    refine r_cond rfl (fun hc80 => ?_) (fun hc80 => ?_)
    ·
     replace hc80 := dt hc80
     have hok : faultP (po nd pl L) = 0 := hc80
     have hsm := hs0 hok
     obtain ⟨⟨hn1, hn5⟩, ⟨hp1, hp4⟩, hL4, hnn, hpp, hLL⟩ := po_ok hok
     obtain ⟨N, hN, hN16, hNn⟩ := two_pow hp4
     have hRs := rows_small hRm11 (bestR_small hok)
     refine r_seq (r_region' ?_)
     refine l_q (q_assign (v := .bool _) rfl rfl) ?_
     refine l_nil (r_seq (r_region' ?_))
     refine l_q (q_load_agg (n := 3) Tryz.isAgg26 Tryz.sizeOf26 rfl ((hb1.cells' (cs' := [_, _, _]) 0 3 rfl)) rfl rfl) ?_
     refine l_q (q_fieldAddr (o' := 1) rfl fld26_1 rfl) ?_
     refine l_q (q_load Tryz.isAgg23 rfl ((hb1.has (o := 1) rfl)) rfl) ?_
     refine l_q (q_len rfl Tryz.underlying23 rfl rfl) ?_
     refine l_q (q_toUint Tryz.underlying3 Tryz.underlying75 rfl (by omega) rfl) ?_
     refine l_q (q_shl rfl rfl (by omega) (by omega) rfl) ?_
     refine l_q (q_sub rfl rfl (by omega) rfl) ?_
     refine l_o (o_call Tryz.call54 rfl ((by have h := best10_ret na nc nd pa pc pl ca cc L (2 ^ pl.length - 1) _ (hpo.below hB) hok hsm (so_small hp4); rw [so_eq] at h; exact h)) rfl ?_)
     rintro _ w81 ⟨ba, bc, B, rfl, hBw, hBr, hBm, hE81⟩
     replace hB := below_ext hB hE81 hsz
     replace hR11 := hR11.ext hE81
     replace hRr11 := hRr11.ext hE81
     replace hsz := Nat.le_trans hsz hE81.size
     have hBs := best_small hok hBm
     refine l_q (q_move (v := .tuple _) rfl rfl) ?_
     refine l_q (q_extract (vs := [_, _]) (v := .slice _ _ _) rfl rfl rfl) ?_
     refine l_q (q_extract (vs := [_, _]) (v := .bool _) rfl rfl rfl) ?_
     refine l_q (q_assign (v := .slice _ _ _) rfl rfl) ?_
     refine l_q (q_assign (v := .bool _) rfl rfl) ?_
     refine l_nil ?_
     refine r_forget [(7, .slice _ _ _), (8, .int _ _), (9, .int _ _), (11, .int _ _), (12, .slice _ _ _), (13, .bool _)] ⟨rfl, rfl, rfl, rfl, rfl, rfl, trivial⟩ (fun e82 => ?_)
     refine r_seq (r_region' ?_)
     refine l_q (q_move (v := .bool _) rfl rfl) ?_
     refine l_q (q_not rfl rfl) ?_
     refine l_nil ?_
     refine r_cond rfl (fun hc83 => ?_) (fun hc83 => ?_)
     ·
      replace hc83 := df (nt hc83)
      have hbR := bestN_none hok hBm hc83
      refine r_region' ?_
      refine l_q (q_assign (v := .int _ _) rfl rfl) ?_
      refine l_nil (r_seq (r_region' ?_))
      refine l_q (q_move (v := .int _ _) rfl rfl) ?_
      refine l_q (q_move (v := .int _ _) rfl rfl) ?_
      refine l_q (q_eql rfl rfl rfl) ?_
      refine l_q (q_move (v := .bool _) rfl rfl) ?_
      have hk84 : (decide (((bestR nd pl L).2.2) = 10)) = true := decide_eq_true (by rw [hbR] <;> first | rfl | exact hok.symm)
      refine l_part 73 rfl (fun _ => ?_) (fun hx => absurd (hk84.symm.trans hx) (by decide))
      refine l_q (q_move (v := .slice _ _ _) rfl rfl) ?_
      refine l_q (q_move (v := .slice _ _ _) rfl rfl) ?_
      refine l_o (o_call Tryz.call55 rfl (lsame10_ret _ _ R11 _ _ B _ hR11 hRr11 hRs.1 hRs.2 hBw hBr hBs.1 hBs.2) rfl ?_)
      rintro _ w85 ⟨rfl, hE85⟩
      replace hB := below_ext hB hE85 hsz
      replace hR11 := hR11.ext hE85
      replace hRr11 := hRr11.ext hE85
      replace hBw := hBw.ext hE85
      replace hBr := hBr.ext hE85
      replace hsz := Nat.le_trans hsz hE85.size
      refine l_q (q_pick_t (v := .bool _) rfl rfl rfl) ?_
      refine l_q (q_move (v := .bool _) rfl rfl) ?_
      have hk86 : (decide (R11.map (·.xs) = B.map (·.xs))) = true := decide_eq_true (by rw [hRm11, hbR])
      refine l_part 78 rfl (fun _ => ?_) (fun hx => absurd (hk86.symm.trans hx) (by decide))
      refine l_q (q_move (v := .int _ _) rfl rfl) ?_
      refine l_q (q_move (v := .slice _ _ _) rfl rfl) ?_
      refine l_o (o_call Tryz.call53 rfl (duties10_ret _ _ B _ hBw hBr hBs.1 hBs.2) rfl ?_)
      rintro _ w87 ⟨rfl, hE87⟩
      replace hB := below_ext hB hE87 hsz
      replace hR11 := hR11.ext hE87
      replace hRr11 := hRr11.ext hE87
      replace hBw := hBw.ext hE87
      replace hBr := hBr.ext hE87
      replace hsz := Nat.le_trans hsz hE87.size
      refine l_q (q_eql rfl rfl rfl) ?_
      refine l_q (q_pick_t (v := .bool _) rfl rfl rfl) ?_
      refine l_q (q_move (v := .bool _) rfl rfl) ?_
      have hk88 : (decide (((bestR nd pl L).2.1) = (dut (B.map (·.xs))))) = true := decide_eq_true (by rw [hbR] <;> first | rfl | exact hok.symm)
      refine l_part 84 rfl (fun _ => ?_) (fun hx => absurd (hk88.symm.trans hx) (by decide))
      refine l_o (o_call Tryz.call17 rfl (awake_ret _) rfl ?_)
      rintro _ w89 ⟨rfl, hE89⟩
      replace hB := below_ext hB hE89 hsz
      replace hR11 := hR11.ext hE89
      replace hRr11 := hRr11.ext hE89
      replace hBw := hBw.ext hE89
      replace hBr := hBr.ext hE89
      replace hsz := Nat.le_trans hsz hE89.size
      refine l_q (q_pick_t (v := .bool _) rfl rfl rfl) ?_
      refine l_q (q_assign (v := .bool _) rfl rfl) ?_
      refine l_nil ?_
      refine r_forget [(6, .bool _)] ⟨rfl, trivial⟩ (fun e90 => ?_)
      refine r_ret_ (vs := [.bool _]) rfl Tryz.func11 rfl (.nil _) ⟨rfl, trivial⟩ ?_
      exact ⟨rfl, Ext.of_below hB⟩
     ·
      replace hc83 := dt (nf hc83)
      have hbR := bestN_some hok hBm hc83
      refine r_skip (r_seq (r_region' ?_))
      refine l_q (q_move (v := .int _ _) rfl rfl) ?_
      refine l_q (q_move (v := .int _ _) rfl rfl) ?_
      refine l_q (q_eql rfl rfl rfl) ?_
      refine l_q (q_move (v := .bool _) rfl rfl) ?_
      have hk91 : (decide (((bestR nd pl L).2.2) = (faultP (po nd pl L)))) = true := decide_eq_true (by rw [hbR] <;> first | rfl | exact hok.symm)
      refine l_part 73 rfl (fun _ => ?_) (fun hx => absurd (hk91.symm.trans hx) (by decide))
      refine l_q (q_move (v := .slice _ _ _) rfl rfl) ?_
      refine l_q (q_move (v := .slice _ _ _) rfl rfl) ?_
      refine l_o (o_call Tryz.call55 rfl (lsame10_ret _ _ R11 _ _ B _ hR11 hRr11 hRs.1 hRs.2 hBw hBr hBs.1 hBs.2) rfl ?_)
      rintro _ w92 ⟨rfl, hE92⟩
      replace hB := below_ext hB hE92 hsz
      replace hR11 := hR11.ext hE92
      replace hRr11 := hRr11.ext hE92
      replace hBw := hBw.ext hE92
      replace hBr := hBr.ext hE92
      replace hsz := Nat.le_trans hsz hE92.size
      refine l_q (q_pick_t (v := .bool _) rfl rfl rfl) ?_
      refine l_q (q_move (v := .bool _) rfl rfl) ?_
      have hk93 : (decide (R11.map (·.xs) = B.map (·.xs))) = true := decide_eq_true (by rw [hRm11, hbR])
      refine l_part 78 rfl (fun _ => ?_) (fun hx => absurd (hk93.symm.trans hx) (by decide))
      refine l_q (q_move (v := .int _ _) rfl rfl) ?_
      refine l_q (q_move (v := .slice _ _ _) rfl rfl) ?_
      refine l_o (o_call Tryz.call53 rfl (duties10_ret _ _ B _ hBw hBr hBs.1 hBs.2) rfl ?_)
      rintro _ w94 ⟨rfl, hE94⟩
      replace hB := below_ext hB hE94 hsz
      replace hR11 := hR11.ext hE94
      replace hRr11 := hRr11.ext hE94
      replace hsz := Nat.le_trans hsz hE94.size
      refine l_q (q_eql rfl rfl rfl) ?_
      refine l_q (q_pick_t (v := .bool _) rfl rfl rfl) ?_
      refine l_q (q_move (v := .bool _) rfl rfl) ?_
      have hk95 : (decide (((bestR nd pl L).2.1) = (dut (B.map (·.xs))))) = true := decide_eq_true (by rw [hbR] <;> first | rfl | exact hok.symm)
      refine l_part 84 rfl (fun _ => ?_) (fun hx => absurd (hk95.symm.trans hx) (by decide))
      refine l_o (o_call Tryz.call17 rfl (awake_ret _) rfl ?_)
      rintro _ w96 ⟨rfl, hE96⟩
      replace hB := below_ext hB hE96 hsz
      replace hR11 := hR11.ext hE96
      replace hRr11 := hRr11.ext hE96
      replace hsz := Nat.le_trans hsz hE96.size
      refine l_q (q_pick_t (v := .bool _) rfl rfl rfl) ?_
      refine l_q (q_assign (v := .bool _) rfl rfl) ?_
      refine l_nil ?_
      refine r_forget [(6, .bool _)] ⟨rfl, trivial⟩ (fun e97 => ?_)
      refine r_ret_ (vs := [.bool _]) rfl Tryz.func11 rfl (.nil _) ⟨rfl, trivial⟩ ?_
      exact ⟨rfl, Ext.of_below hB⟩
    ·
     replace hc80 := df hc80
     have hf := hc80
     have hbR := best_err (L := L) hf
     have hRs := rows_small (hRm11.trans (congrArg (·.1) hbR)) ⟨Nat.zero_le _, by simp⟩
     refine r_skip (r_seq (r_region' ?_))
     refine l_q (q_move (v := .int _ _) rfl rfl) ?_
     refine l_q (q_move (v := .int _ _) rfl rfl) ?_
     refine l_q (q_eql rfl rfl rfl) ?_
     refine l_q (q_move (v := .bool _) rfl rfl) ?_
     have hk98 : (decide (((bestR nd pl L).2.2) = (faultP (po nd pl L)))) = true := decide_eq_true (by rw [hbR] <;> first | rfl | exact hok.symm)
     refine l_part 73 rfl (fun _ => ?_) (fun hx => absurd (hk98.symm.trans hx) (by decide))
     refine l_q (q_move (v := .slice _ _ _) rfl rfl) ?_
     refine l_q (q_move (v := .slice _ _ _) rfl rfl) ?_
     refine l_o (o_call Tryz.call55 rfl (lsame10_ret _ _ R11 none 0 [] _ hR11 hRr11 hRs.1 hRs.2 (Row.nil _ _ _ _) (RowsI.nil _) (by decide) (by simp)) rfl ?_)
     rintro _ w99 ⟨rfl, hE99⟩
     replace hB := below_ext hB hE99 hsz
     replace hsz := Nat.le_trans hsz hE99.size
     refine l_q (q_pick_t (v := .bool _) rfl rfl rfl) ?_
     refine l_q (q_move (v := .bool _) rfl rfl) ?_
     have hk100 : (decide (R11.map (·.xs) = [])) = true := decide_eq_true (by rw [hRm11, hbR])
     refine l_part 78 rfl (fun _ => ?_) (fun hx => absurd (hk100.symm.trans hx) (by decide))
     refine l_q (q_move (v := .int _ _) rfl rfl) ?_
     refine l_q (q_move (v := .slice _ _ _) rfl rfl) ?_
     refine l_o (o_call Tryz.call53 rfl (duties10_ret none 0 [] _ (Row.nil _ _ _ _) (RowsI.nil _) (by decide) (by simp)) rfl ?_)
     rintro _ w101 ⟨rfl, hE101⟩
     replace hB := below_ext hB hE101 hsz
     replace hsz := Nat.le_trans hsz hE101.size
     refine l_q (q_eql rfl rfl rfl) ?_
     refine l_q (q_pick_t (v := .bool _) rfl rfl rfl) ?_
     refine l_q (q_move (v := .bool _) rfl rfl) ?_
     have hk102 : (decide (((bestR nd pl L).2.1) = (dut []))) = true := decide_eq_true (by rw [hbR] <;> first | rfl | exact hok.symm)
     refine l_part 84 rfl (fun _ => ?_) (fun hx => absurd (hk102.symm.trans hx) (by decide))
     refine l_o (o_call Tryz.call17 rfl (awake_ret _) rfl ?_)
     rintro _ w103 ⟨rfl, hE103⟩
     replace hB := below_ext hB hE103 hsz
     replace hsz := Nat.le_trans hsz hE103.size
     refine l_q (q_pick_t (v := .bool _) rfl rfl rfl) ?_
     refine l_q (q_assign (v := .bool _) rfl rfl) ?_
     refine l_nil ?_
     refine r_forget [(6, .bool _)] ⟨rfl, trivial⟩ (fun e104 => ?_)
     refine r_ret_ (vs := [.bool _]) rfl Tryz.func11 rfl (.nil _) ⟨rfl, trivial⟩ ?_
     exact ⟨rfl, Ext.of_below hB⟩
end Go.Proofs.YtgdanglidienmaaGreat
