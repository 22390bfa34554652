/- Contracts. -/
import Derived.Test.YtgdanglidienmaaGreatRK
set_option linter.unusedVariables false
set_option linter.unusedSimpArgs false
namespace Go.Proofs.YtgdanglidienmaaGreat
open Go Go.RowKit Go.Gv Go.Fl


theorem rotaFails_ret (na : Option Addr) (nc : Nat) (nd : List Int) (pa : Option Addr) (pc : Nat) (pl : List PV) (ca : Option Addr) (cc : Nat) (L : List SV) (ra : Option Addr) (rc : Nat) (R : List SV) (w : World) (hpo : PoAt w na nc nd pa pc pl ca cc L) (hbg : PoBig nd pl L) (hR : Row w ra R.length rc 1 (R.map SV.enc)) (hRr : RowsI w R) (hRl : R.length ≤ 2097152) (hRx : ∀ s ∈ R, s.xs.length ≤ 2097152) : Ret Tryz.prog 4 [.agg ⟨[.slice na nd.length nc, .slice pa pl.length pc, .slice ca L.length cc]⟩, .slice ra R.length rc] w (fun v w' => v = .bool true ∧ Ext w w') := by
 obtain ⟨hnl, hpll, hLl, hLs, hPb⟩ := id hbg
 have hB := Below.refl w.heap.size w
 have hsz : w.heap.size ≤ w.heap.size := Nat.le_refl _
 refine ret_of_runs (args := [_, _]) Tryz.func4 rfl (Nat.le_of_ble_eq_true rfl) (by kernel_rfl) ?_
 refine r_seq (r_region' ?_)
 refine l_o (o_box rfl rfl rfl ?_)
 intro b1 w1 hzl1 hzr1 _ hb1 hE1
 have hbs_b1 : w.heap.size ≤ b1 := Nat.le_trans hsz hzl1
 replace hB := below_ext hB hE1 hsz
 replace hsz := Nat.le_trans hsz hE1.size
 refine l_q (q_assign (v := .bool _) rfl rfl) ?_
 refine l_nil (r_seq (r_seq (r_region' ?_)))
 refine l_q (q_load_agg (n := 3) Tryz.isAgg26 Tryz.sizeOf26 rfl ((hb1.cells' (cs' := [_, _, _]) 0 3 rfl)) rfl rfl) ?_
 refine l_o (o_call Tryz.call15 rfl (thin_ret10 na nc nd pa pc pl ca cc L _ (hpo.below hB) hbg) rfl ?_)
 rintro _ w2 ⟨bb2, rfl, -, hE2⟩
 replace hB := below_ext hB hE2 hsz
 replace hb1 := hb1.ext hE2
 replace hsz := Nat.le_trans hsz hE2.size
 refine l_q (q_not rfl rfl) ?_
 refine l_q (q_move (v := .bool _) rfl rfl) ?_
 refine l_part 12 rfl (fun hc3 => ?_) (fun hc3 => ?_)
 ·
  replace hc3 := nt hc3
  refine l_q (q_skip rfl) ?_
  refine l_q (q_skip rfl) ?_
  refine l_q (q_skip rfl) ?_
  refine l_q (q_pick_t (v := .bool _) rfl rfl rfl) ?_
  refine l_nil ?_
  refine r_cond_t rfl ?_
  refine r_seq (r_region' ?_)
  refine l_o (o_call Tryz.call17 rfl (awake_ret _) rfl ?_)
  rintro _ w4 ⟨rfl, hE4⟩
  replace hB := below_ext hB hE4 hsz
  replace hb1 := hb1.ext hE4
  replace hsz := Nat.le_trans hsz hE4.size
  refine l_q (q_assign (v := .bool _) rfl rfl) ?_
  refine l_nil ?_
  refine r_forget [(4, .bool _)] ⟨rfl, trivial⟩ (fun e5 => ?_)
  refine r_ret_ (vs := [.bool _]) rfl Tryz.func4 rfl (.nil _) ⟨rfl, trivial⟩ ?_
  exact ⟨rfl, Ext.of_below hB⟩
 ·
  replace hc3 := nf hc3
  refine l_q (q_move (v := .slice _ _ _) rfl rfl) ?_
  refine l_o (o_call Tryz.call16 rfl (short_ret10 _ _ R _ (hR.below hB) (hRr.below hB) hRl hRx) rfl ?_)
  rintro _ w6 ⟨bb6, rfl, -, hE6⟩
  replace hB := below_ext hB hE6 hsz
  replace hb1 := hb1.ext hE6
  replace hsz := Nat.le_trans hsz hE6.size
  refine l_q (q_not rfl rfl) ?_
  refine l_q (q_pick_f (v := .bool _) rfl rfl rfl) ?_
  refine l_nil ?_
  refine r_cond rfl (fun hc7 => ?_) (fun hc7 => ?_)
  ·
   replace hc7 := nt hc7
   refine r_seq (r_region' ?_)
   refine l_o (o_call Tryz.call17 rfl (awake_ret _) rfl ?_)
   rintro _ w8 ⟨rfl, hE8⟩
   replace hB := below_ext hB hE8 hsz
   replace hb1 := hb1.ext hE8
   replace hsz := Nat.le_trans hsz hE8.size
   refine l_q (q_assign (v := .bool _) rfl rfl) ?_
   refine l_nil ?_
   refine r_forget [(4, .bool _)] ⟨rfl, trivial⟩ (fun e9 => ?_)
   refine r_ret_ (vs := [.bool _]) rfl Tryz.func4 rfl (.nil _) ⟨rfl, trivial⟩ ?_
   exact ⟨rfl, Ext.of_below hB⟩
  ·
   replace hc7 := nf hc7
   refine r_skip (r_seq (r_region' ?_))
   refine l_q (q_load_agg (n := 3) Tryz.isAgg26 Tryz.sizeOf26 rfl ((hb1.cells' (cs' := [_, _, _]) 0 3 rfl)) rfl rfl) ?_
   refine l_o (o_call Tryz.call19 rfl (post10_ret na nc nd pa pc pl ca cc L _ (hpo.below hB) hbg) rfl ?_)
   rintro _ w10 ⟨pna10, pnc10, ppa10, ppc10, ppl10, pca10, pcc10, pL10, rfl, hpo10, hpp10, hpL10, hE10⟩
   replace hB := below_ext hB hE10 hsz
   replace hb1 := hb1.ext hE10
   replace hsz := Nat.le_trans hsz hE10.size
   have hbg10 := post_big hpp10 hpL10 hbg
   refine l_q (q_move (v := .slice _ _ _) rfl rfl) ?_
   refine l_o (o_call Tryz.call21 rfl (rows10_ret _ _ R _ (hR.below hB) (hRr.below hB) hRl hRx) rfl ?_)
   have hszp11 : w.heap.size ≤ w10.heap.size := hsz
   rintro _ w11 ⟨oa11, oc11, L11, rfl, ho11, hos11, hm11, hE11⟩
   replace ho11 := own_mono ho11 (show w.heap.size ≤ _ by omega)
   replace hB := below_ext hB hE11 hsz
   replace hb1 := hb1.ext hE11
   replace hpo10 := hpo10.ext hE11
   replace hsz := Nat.le_trans hsz hE11.size
   refine l_o (o_call Tryz.call25 rfl ((by have h := Fails_ret pna10 pnc10 nd ppa10 ppc10 ppl10 pca10 pcc10 pL10 _ _ L11 _ hpo10 hbg10.1 hbg10.2.1 hbg10.2.2.1 hbg10.2.2.2.1 (Row.of_owns ho11) hos11.rows (rows_same hm11 hRl hRx).1 (rows_same hm11 hRl hRx).2; rw [fails_eq (hpo10).rCr, po_pn hpp10 hpL10, hpL10, hm11] at h; exact h)) rfl ?_)
   rintro _ w12 ⟨fa12, fc12, rfl, hf12, hE12⟩
   replace hB := below_ext hB hE12 hsz
   replace hb1 := hb1.ext hE12
   replace hpo10 := hpo10.ext hE12
   replace ho11 := own_ext ho11 hE12
   replace hos11 := hos11.ext hE12
   replace hsz := Nat.le_trans hsz hE12.size
   refine l_q (q_move (v := .tuple _) rfl rfl) ?_
   refine l_q (q_extract (vs := [_, _]) (v := .slice _ _ _) rfl rfl rfl) ?_
   refine l_q (q_extract (vs := [_, _]) (v := .int _ _) rfl rfl rfl) ?_
   refine l_q (q_assign (v := .slice _ _ _) rfl rfl) ?_
   refine l_q (q_assign (v := .int _ _) rfl rfl) ?_
   refine l_nil ?_
   refine r_forget [(1, .slice _ _ _), (2, .pointer _), (5, .slice _ _ _), (6, .int _ _)] ⟨rfl, rfl, rfl, rfl, trivial⟩ (fun e13 => ?_)
   refine r_seq (r_seq (r_region' ?_))
   refine l_q (q_load_agg (n := 3) Tryz.isAgg26 Tryz.sizeOf26 rfl ((hb1.cells' (cs' := [_, _, _]) 0 3 rfl)) rfl rfl) ?_
   refine l_q (q_move (v := .slice _ _ _) rfl rfl) ?_
   refine l_o (o_call Tryz.call22 rfl (planned_ret na nc nd pa pc pl ca cc L _ _ R _ (hpo.below hB) hbg (hR.below hB) (hRr.below hB) hRl hRx) rfl ?_)
   rintro _ w14 ⟨rfl, hE14⟩
   replace hB := below_ext hB hE14 hsz
   replace hb1 := hb1.ext hE14
   replace hpo10 := hpo10.ext hE14
   replace ho11 := own_ext ho11 hE14
   replace hos11 := hos11.ext hE14
   replace hf12 := hf12.ext hE14
   replace hsz := Nat.le_trans hsz hE14.size
   refine l_q (q_assign (v := .int _ _) rfl rfl) ?_
   refine l_nil (r_seq (r_region' ?_))
   refine l_q (q_move (v := .int _ _) rfl rfl) ?_
   refine l_q (q_neq rfl rfl rfl) ?_
   refine l_nil ?_
   refine r_cond rfl (fun hc15 => ?_) (fun hc15 => ?_)
   ·
    replace hc15 := df (nt hc15)
    have hp := hc15
    refine r_seq (r_region' ?_)
    refine l_q (q_move (v := .int _ _) rfl rfl) ?_
    refine l_q (q_move (v := .int _ _) rfl rfl) ?_
    refine l_q (q_eql rfl rfl rfl) ?_
    refine l_q (q_move (v := .bool _) rfl rfl) ?_
    have hk16 : (decide (((failsX nd (planP (po nd pl L) (R.map (·.xs))) (R.map (·.xs)) (L.map (·.xs))).1) = (planP (po nd pl L) (R.map (·.xs))))) = true := decide_eq_true fails_1
    refine l_part 34 rfl (fun _ => ?_) (fun hx => absurd (hk16.symm.trans hx) (by decide))
    refine l_q (q_move (v := .slice _ _ _) rfl rfl) ?_
    refine l_q (q_len rfl Tryz.underlying22 rfl rfl) ?_
    refine l_q (q_eql rfl rfl rfl) ?_
    refine l_q (q_pick_t (v := .bool _) rfl rfl rfl) ?_
    refine l_q (q_move (v := .bool _) rfl rfl) ?_
    have hk17 : (decide ((((failsX nd (planP (po nd pl L) (R.map (·.xs))) (R.map (·.xs)) (L.map (·.xs))).2).length : Int) = 0)) = true := by rw [fails_2 hp]; rfl
    refine l_part 39 rfl (fun _ => ?_) (fun hx => absurd (hk17.symm.trans hx) (by decide))
    refine l_o (o_call Tryz.call17 rfl (awake_ret _) rfl ?_)
    rintro _ w18 ⟨rfl, hE18⟩
    replace hB := below_ext hB hE18 hsz
    replace hb1 := hb1.ext hE18
    replace hpo10 := hpo10.ext hE18
    replace ho11 := own_ext ho11 hE18
    replace hos11 := hos11.ext hE18
    replace hf12 := hf12.ext hE18
    replace hsz := Nat.le_trans hsz hE18.size
    refine l_q (q_pick_t (v := .bool _) rfl rfl rfl) ?_
    refine l_q (q_assign (v := .bool _) rfl rfl) ?_
    refine l_nil ?_
    refine r_forget [(4, .bool _)] ⟨rfl, trivial⟩ (fun e19 => ?_)
    refine r_ret_ (vs := [.bool _]) rfl Tryz.func4 rfl (.nil _) ⟨rfl, trivial⟩ ?_
    exact ⟨rfl, Ext.of_below hB⟩
   ·
    replace hc15 := dt (nf hc15)
    have hp : planP (po nd pl L) (R.map (·.xs)) = 0 := by simpa using hc15
    obtain ⟨hok, hI⟩ := plan_IsR hp
    obtain ⟨⟨hn1, hn5⟩, ⟨hp1, hp4⟩, hL4, hnn, hpp, hLL⟩ := po_ok hok
    have hRn : R.length = nd.length := by have := hI.1; rwa [List.length_map] at this
    have hfl : (failsX nd (planP (po nd pl L) (R.map (·.xs))) (R.map (·.xs)) (L.map (·.xs))).2.length = L.length + 1 := by rw [fails_len hp, List.length_map]
    refine r_skip (r_seq (r_seq (r_region' ?_)))
    refine l_q (q_move (v := .int _ _) rfl rfl) ?_
    refine l_q (q_neq rfl rfl rfl) ?_
    refine l_q (q_move (v := .bool _) rfl rfl) ?_
    have hk20 : (!decide (((failsX nd (planP (po nd pl L) (R.map (·.xs))) (R.map (·.xs)) (L.map (·.xs))).1) = 0)) = false := by rw [fails_1, hp]; rfl
    refine l_part 44 rfl (fun hx => absurd (hk20.symm.trans hx) (by decide)) (fun _ => ?_)
    refine l_q (q_move (v := .slice _ _ _) rfl rfl) ?_
    refine l_q (q_len rfl Tryz.underlying22 rfl rfl) ?_
    refine l_q (q_fieldAddr (o' := 2) rfl fld26_2 rfl) ?_
    refine l_q (q_load Tryz.isAgg24 rfl ((hb1.has (o := 2) rfl)) rfl) ?_
    refine l_q (q_len rfl Tryz.underlying24 rfl rfl) ?_
    refine l_q (q_add rfl rfl (by omega) rfl) ?_
    refine l_q (q_neq rfl rfl rfl) ?_
    refine l_q (q_pick_f (v := .bool _) rfl rfl rfl) ?_
    refine l_nil ?_
    refine r_forget [(1, .slice _ _ _), (2, .pointer _), (5, .slice _ _ _), (52, .bool _)] ⟨rfl, rfl, rfl, rfl, trivial⟩ (fun e21 => ?_)
    have hk22 : (!decide ((((failsX nd (planP (po nd pl L) (R.map (·.xs))) (R.map (·.xs)) (L.map (·.xs))).2).length : Int) = ((L.length : Int) + 1))) = false := by rw [hfl]; simp
    refine r_cond_f ((congrArg Value.bool hk22 : Value.bool _ = _)) ?_
    refine r_skip (r_seq (r_seq (r_region' ?_)))
    refine l_q (q_assign (v := .int _ _) rfl rfl) ?_
    refine l_nil (r_block ?_)
    refine r_rounds (α := Nat) (fun c e wl => Knows e [(1, .slice ra R.length rc), (2, ptr b1 0), (5, .slice fa12 (((failsX nd (planP (po nd pl L) (R.map (·.xs))) (R.map (·.xs)) (L.map (·.xs))).2).length) fc12), (8, vint (c : Int))] ∧ (c ≤ L.length + 1) ∧ (Blk wl b1 [.slice na nd.length nc, .slice pa pl.length pc, .slice ca L.length cc]) ∧ (PoAt wl pna10 pnc10 nd ppa10 ppc10 ppl10 pca10 pcc10 pL10) ∧ (wl.ownsRow w.heap.size 22 1 (.slice oa11 ((L11).length) oc11) ((L11).length) ((L11).map SV.enc)) ∧ (OwnsI wl w10.heap.size 3 L11) ∧ (Row wl fa12 (((failsX nd (planP (po nd pl L) (R.map (·.xs))) (R.map (·.xs)) (L.map (·.xs))).2).length) fc12 1 (((failsX nd (planP (po nd pl L) (R.map (·.xs))) (R.map (·.xs)) (L.map (·.xs))).2).map vint)) ∧ (w.heap.size ≤ wl.heap.size) ∧ (Below w.heap.size w wl)) (fun c => L.length + 1 - c) 0 ?_ ?_
    ·
     exact ⟨⟨rfl, rfl, rfl, rfl, trivial⟩, (Nat.zero_le _), hb1, hpo10, ho11, hos11, hf12, hsz, hB⟩
    ·
     rintro c el23 wl23 ⟨hkn, hkc, hb1, hpo10, ho11, hos11, hf12, hsz, hB⟩ ih23
     obtain ⟨e23, rfl⟩ := knows_env hkn
     refine r_seq (r_seq (r_region' ?_))
     refine l_q (q_move (v := .int _ _) rfl rfl) ?_
     refine l_q (q_move (v := .slice _ _ _) rfl rfl) ?_
     refine l_q (q_len rfl Tryz.underlying22 rfl rfl) ?_
     refine l_q (q_lss rfl rfl rfl) ?_
     refine l_nil ?_
     refine r_cond rfl (fun hc24 => ?_) (fun hc24 => ?_)
     ·
      replace hc24 := dt hc24
      have hcl : c < L.length + 1 := by omega
      refine r_skip (r_seq (r_block (r_seq ?_)))
      refine r_draw ext_refl' ext_trans' [0, 1, 2, 3, 4, 5, 6, 7, 8] [7] 20 (by kernel_rfl) (by kernel_rfl) ?_
      intro w25 _ hE25
      replace hB := below_ext hB hE25 hsz
      replace hb1 := hb1.ext hE25
      replace hpo10 := hpo10.ext hE25
      replace ho11 := own_ext ho11 hE25
      replace hos11 := hos11.ext hE25
      replace hf12 := hf12.ext hE25
      replace hsz := Nat.le_trans hsz hE25.size
      refine m_q rfl rfl (fun w' hC' => q_move (v := .slice _ _ _) rfl rfl) ?_
      refine m_q rfl rfl (fun w' hC' => q_move (v := .int _ _) rfl rfl) ?_
      obtain ⟨b26, o26, ha26, hh26⟩ := hf12.at1 c (((failsX nd (planP (po nd pl L) (R.map (·.xs))) (R.map (·.xs)) (L.map (·.xs))).2).getD c 0) (getD_some (by omega))
      refine m_q rfl rfl (fun w' hC' => q_indexAddr1 Tryz.underlying22 Tryz.sizeOf3 rfl ha26 rfl (by omega) rfl) ?_
      refine m_q rfl rfl (fun w' hC' => q_load Tryz.isAgg3 rfl ((hh26.ext hC')) rfl) ?_
      refine m_q rfl rfl (fun w' hC' => q_load_agg (n := 3) Tryz.isAgg26 Tryz.sizeOf26 rfl (((hb1.cells' (cs' := [_, _, _]) 0 3 rfl).ext hC')) rfl rfl) ?_
      refine m_q rfl rfl (fun w' hC' => q_move (v := .slice _ _ _) rfl rfl) ?_
      refine m_q rfl rfl (fun w' hC' => q_move (v := .int _ _) rfl rfl) ?_
      refine m_o rfl rfl (o_call Tryz.call26 rfl (fails10_ret na nc nd pa pc pl ca cc L _ _ R c _ (hpo.below hB) hok (hR.below hB) (hRr.below hB) hRl hRx (by omega) (plan_on hp) (by omega)) rfl ?_)
      rintro _ w27 ⟨rfl, hE27⟩
      refine ⟨hE27, ?_⟩
      replace hB := below_ext hB hE27 hsz
      replace hb1 := hb1.ext hE27
      replace hpo10 := hpo10.ext hE27
      replace ho11 := own_ext ho11 hE27
      replace hos11 := hos11.ext hE27
      replace hf12 := hf12.ext hE27
      replace hsz := Nat.le_trans hsz hE27.size
      refine m_q rfl rfl (fun w' hC' => q_neq rfl rfl rfl) ?_
      refine m_nil ?_
      refine r_forget [(1, .slice _ _ _), (2, .pointer _), (5, .slice _ _ _), (8, .int _ _), (67, .bool _)] ⟨rfl, rfl, rfl, rfl, rfl, trivial⟩ (fun e28 => ?_)
      have hk29 : (!decide ((((failsX nd (planP (po nd pl L) (R.map (·.xs))) (R.map (·.xs)) (L.map (·.xs))).2).getD c 0) = (failX nd (R.map (·.xs)) (L.map (·.xs)) c))) = false := by rw [fails_at hp (by rw [List.length_map]; omega)]; simp
      refine r_cond_f ((congrArg Value.bool hk29 : Value.bool _ = _)) ?_
      refine r_skip (r_inBlock (r_region' ?_))
      refine l_q (q_move (v := .int _ _) rfl rfl) ?_
      refine l_q (q_add rfl rfl (by omega) rfl) ?_
      refine l_q (q_assign (v := .int _ _) rfl rfl) ?_
      refine l_nil ?_
      exact ih23 (c + 1) _ _ ⟨⟨rfl, rfl, rfl, by first | rfl | exact vint_eq (by omega), trivial⟩, (by omega), hb1, hpo10, ho11, hos11, hf12, hsz, hB⟩ (by first | omega | (dsimp only; omega))
     ·
      replace hc24 := dlt hc24
      refine r_exit rfl ?_
      refine r_seq (r_region' ?_)
      refine l_o (o_call Tryz.call17 rfl (awake_ret _) rfl ?_)
      rintro _ w30 ⟨rfl, hE30⟩
      replace hB := below_ext hB hE30 hsz
      replace hsz := Nat.le_trans hsz hE30.size
      refine l_q (q_assign (v := .bool _) rfl rfl) ?_
      refine l_nil ?_
      refine r_ret_ (vs := [.bool _]) rfl Tryz.func4 rfl (.nil _) ⟨rfl, trivial⟩ ?_
      exact ⟨rfl, Ext.of_below hB⟩
end Go.Proofs.YtgdanglidienmaaGreat
