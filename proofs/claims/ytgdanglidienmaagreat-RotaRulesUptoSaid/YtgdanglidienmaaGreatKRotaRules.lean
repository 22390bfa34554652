/- Contracts. -/
import Derived.Test.YtgdanglidienmaaGreatRK
set_option linter.unusedVariables false
set_option linter.unusedSimpArgs false
namespace Go.Proofs.YtgdanglidienmaaGreat
open Go Go.RowKit Go.Gv Go.Fl


theorem rotaRules_ret (na : Option Addr) (nc : Nat) (nd : List Int) (pa : Option Addr) (pc : Nat) (pl : List PV) (ca : Option Addr) (cc : Nat) (L : List SV) (ra : Option Addr) (rc : Nat) (R : List SV) (w : World) (hpo : PoAt w na nc nd pa pc pl ca cc L) (hbg : PoBig nd pl L) (hR : Row w ra R.length rc 1 (R.map SV.enc)) (hRr : RowsI w R) (hRl : R.length ≤ 2097152) (hRx : ∀ s ∈ R, s.xs.length ≤ 2097152) : Ret Tryz.prog 3 [.agg ⟨[.slice na nd.length nc, .slice pa pl.length pc, .slice ca L.length cc]⟩, .slice ra R.length rc] w (fun v w' => v = .bool true ∧ Ext w w') := by
 obtain ⟨hnl, hpll, hLl, hLs, hPb⟩ := id hbg
 have hB := Below.refl w.heap.size w
 have hsz : w.heap.size ≤ w.heap.size := Nat.le_refl _
 refine ret_of_runs (args := [_, _]) Tryz.func3 rfl (Nat.le_of_ble_eq_true rfl) (by kernel_rfl) ?_
 refine r_seq (r_region' ?_)
 refine l_o (o_box rfl rfl rfl ?_)
 intro b1 w1 hzl1 hzr1 _ hb1 hE1
 have hbs_b1 : w.heap.size ≤ b1 := Nat.le_trans hsz hzl1
 replace hB := below_ext hB hE1 hsz
 replace hsz := Nat.le_trans hsz hE1.size
 refine l_q (q_assign (v := .bool _) rfl rfl) ?_
 refine l_nil (r_seq (r_seq (r_region' ?_)))
 refine l_q (q_load_agg (n := 3) Tryz.isAgg26 Tryz.sizeOf26 rfl ((hb1.cells' (cs' := [_, _, _]) 0 3 rfl)) rfl rfl) ?_
 refine l_o (o_call Tryz.call15 rfl (thin_ret10 na nc nd pa pc pl ca cc L _ (hpo.below hB) hbg) rfl ?_)
 rintro _ w2 ⟨bb2, rfl, -, hE2⟩
 replace hB := below_ext hB hE2 hsz
 replace hb1 := hb1.ext hE2
 replace hsz := Nat.le_trans hsz hE2.size
 refine l_q (q_not rfl rfl) ?_
 refine l_q (q_move (v := .bool _) rfl rfl) ?_
 refine l_part 12 rfl (fun hc3 => ?_) (fun hc3 => ?_)
 ·
  replace hc3 := nt hc3
  refine l_q (q_skip rfl) ?_
  refine l_q (q_skip rfl) ?_
  refine l_q (q_skip rfl) ?_
  refine l_q (q_pick_t (v := .bool _) rfl rfl rfl) ?_
  refine l_nil ?_
  refine r_cond_t rfl ?_
  refine r_seq (r_region' ?_)
  refine l_o (o_call Tryz.call17 rfl (awake_ret _) rfl ?_)
  rintro _ w4 ⟨rfl, hE4⟩
  replace hB := below_ext hB hE4 hsz
  replace hb1 := hb1.ext hE4
  replace hsz := Nat.le_trans hsz hE4.size
  refine l_q (q_assign (v := .bool _) rfl rfl) ?_
  refine l_nil ?_
  refine r_forget [(4, .bool _)] ⟨rfl, trivial⟩ (fun e5 => ?_)
  refine r_ret_ (vs := [.bool _]) rfl Tryz.func3 rfl (.nil _) ⟨rfl, trivial⟩ ?_
  exact ⟨rfl, Ext.of_below hB⟩
 ·
  replace hc3 := nf hc3
  refine l_q (q_move (v := .slice _ _ _) rfl rfl) ?_
  refine l_o (o_call Tryz.call16 rfl (short_ret10 _ _ R _ (hR.below hB) (hRr.below hB) hRl hRx) rfl ?_)
  rintro _ w6 ⟨bb6, rfl, -, hE6⟩
  replace hB := below_ext hB hE6 hsz
  replace hb1 := hb1.ext hE6
  replace hsz := Nat.le_trans hsz hE6.size
  refine l_q (q_not rfl rfl) ?_
  refine l_q (q_pick_f (v := .bool _) rfl rfl rfl) ?_
  refine l_nil ?_
  refine r_cond rfl (fun hc7 => ?_) (fun hc7 => ?_)
  ·
   replace hc7 := nt hc7
   refine r_seq (r_region' ?_)
   refine l_o (o_call Tryz.call17 rfl (awake_ret _) rfl ?_)
   rintro _ w8 ⟨rfl, hE8⟩
   replace hB := below_ext hB hE8 hsz
   replace hb1 := hb1.ext hE8
   replace hsz := Nat.le_trans hsz hE8.size
   refine l_q (q_assign (v := .bool _) rfl rfl) ?_
   refine l_nil ?_
   refine r_forget [(4, .bool _)] ⟨rfl, trivial⟩ (fun e9 => ?_)
   refine r_ret_ (vs := [.bool _]) rfl Tryz.func3 rfl (.nil _) ⟨rfl, trivial⟩ ?_
   exact ⟨rfl, Ext.of_below hB⟩
  ·
   replace hc7 := nf hc7
   refine r_skip (r_seq (r_region' ?_))
   refine l_q (q_load_agg (n := 3) Tryz.isAgg26 Tryz.sizeOf26 rfl ((hb1.cells' (cs' := [_, _, _]) 0 3 rfl)) rfl rfl) ?_
   refine l_o (o_call Tryz.call19 rfl (post10_ret na nc nd pa pc pl ca cc L _ (hpo.below hB) hbg) rfl ?_)
   rintro _ w10 ⟨pna10, pnc10, ppa10, ppc10, ppl10, pca10, pcc10, pL10, rfl, hpo10, hpp10, hpL10, hE10⟩
   replace hB := below_ext hB hE10 hsz
   replace hb1 := hb1.ext hE10
   replace hsz := Nat.le_trans hsz hE10.size
   have hbg10 := post_big hpp10 hpL10 hbg
   refine l_o (o_call Tryz.call18 rfl ((by have h := checkPost_ret pna10 pnc10 nd ppa10 ppc10 ppl10 pca10 pcc10 pL10 _ hpo10 hbg10.1 hbg10.2.1 hbg10.2.2.1 hbg10.2.2.2.1; rw [po_pn hpp10 hpL10] at h; exact h)) rfl ?_)
   rintro _ w11 ⟨rfl, hE11⟩
   replace hB := below_ext hB hE11 hsz
   replace hb1 := hb1.ext hE11
   replace hsz := Nat.le_trans hsz hE11.size
   refine l_q (q_assign (v := .int _ _) rfl rfl) ?_
   refine l_nil ?_
   refine r_forget [(1, .slice _ _ _), (2, .pointer _), (5, .int _ _)] ⟨rfl, rfl, rfl, trivial⟩ (fun e12 => ?_)
   refine r_seq (r_region' ?_)
   refine l_q (q_load_agg (n := 3) Tryz.isAgg26 Tryz.sizeOf26 rfl ((hb1.cells' (cs' := [_, _, _]) 0 3 rfl)) rfl rfl) ?_
   refine l_o (o_call Tryz.call19 rfl (post10_ret na nc nd pa pc pl ca cc L _ (hpo.below hB) hbg) rfl ?_)
   rintro _ w13 ⟨pna13, pnc13, ppa13, ppc13, ppl13, pca13, pcc13, pL13, rfl, hpo13, hpp13, hpL13, hE13⟩
   replace hB := below_ext hB hE13 hsz
   replace hb1 := hb1.ext hE13
   replace hsz := Nat.le_trans hsz hE13.size
   have hbg13 := post_big hpp13 hpL13 hbg
   refine l_q (q_move (v := .slice _ _ _) rfl rfl) ?_
   refine l_o (o_call Tryz.call21 rfl (rows10_ret _ _ R _ (hR.below hB) (hRr.below hB) hRl hRx) rfl ?_)
   have hszp14 : w.heap.size ≤ w13.heap.size := hsz
   rintro _ w14 ⟨oa14, oc14, L14, rfl, ho14, hos14, hm14, hE14⟩
   replace ho14 := own_mono ho14 (show w.heap.size ≤ _ by omega)
   replace hB := below_ext hB hE14 hsz
   replace hb1 := hb1.ext hE14
   replace hpo13 := hpo13.ext hE14
   replace hsz := Nat.le_trans hsz hE14.size
   refine l_o (o_call Tryz.call20 rfl ((by have h := Rules_ret pna13 pnc13 nd ppa13 ppc13 ppl13 pca13 pcc13 pL13 _ _ L14 _ hpo13 hbg13.1 hbg13.2.1 hbg13.2.2.1 hbg13.2.2.2.1 (Row.of_owns ho14) hos14.rows (rows_same hm14 hRl hRx).1 (rows_same hm14 hRl hRx).2; rw [rules_pn hpp13 hpL13, hm14] at h; exact h)) rfl ?_)
   rintro _ w15 ⟨rfl, hE15⟩
   replace hB := below_ext hB hE15 hsz
   replace hb1 := hb1.ext hE15
   replace hsz := Nat.le_trans hsz hE15.size
   refine l_q (q_move (v := .tuple _) rfl rfl) ?_
   refine l_q (q_extract (vs := [_, _]) (v := .bool _) rfl rfl rfl) ?_
   refine l_q (q_extract (vs := [_, _]) (v := .int _ _) rfl rfl rfl) ?_
   refine l_q (q_assign (v := .bool _) rfl rfl) ?_
   refine l_q (q_assign (v := .int _ _) rfl rfl) ?_
   refine l_nil (r_seq (r_region' ?_))
   refine l_q (q_load_agg (n := 3) Tryz.isAgg26 Tryz.sizeOf26 rfl ((hb1.cells' (cs' := [_, _, _]) 0 3 rfl)) rfl rfl) ?_
   refine l_q (q_move (v := .slice _ _ _) rfl rfl) ?_
   refine l_o (o_call Tryz.call22 rfl (planned_ret na nc nd pa pc pl ca cc L _ _ R _ (hpo.below hB) hbg (hR.below hB) (hRr.below hB) hRl hRx) rfl ?_)
   rintro _ w16 ⟨rfl, hE16⟩
   replace hB := below_ext hB hE16 hsz
   replace hb1 := hb1.ext hE16
   replace hsz := Nat.le_trans hsz hE16.size
   refine l_q (q_assign (v := .int _ _) rfl rfl) ?_
   refine l_nil ?_
   refine r_forget [(1, .slice _ _ _), (2, .pointer _), (5, .int _ _), (6, .bool _), (7, .int _ _), (8, .int _ _)] ⟨rfl, rfl, rfl, rfl, rfl, rfl, trivial⟩ (fun e17 => ?_)
   refine r_seq (r_region' ?_)
   refine l_q (q_move (v := .int _ _) rfl rfl) ?_
   refine l_q (q_load_agg (n := 3) Tryz.isAgg26 Tryz.sizeOf26 rfl ((hb1.cells' (cs' := [_, _, _]) 0 3 rfl)) rfl rfl) ?_
   refine l_o (o_call Tryz.call23 rfl (lfault10_ret na nc nd pa pc pl ca cc L _ (hpo.below hB) hbg) rfl ?_)
   rintro _ w18 ⟨rfl, hE18⟩
   replace hB := below_ext hB hE18 hsz
   replace hb1 := hb1.ext hE18
   replace hsz := Nat.le_trans hsz hE18.size
   refine l_q (q_eql rfl rfl rfl) ?_
   refine l_q (q_move (v := .bool _) rfl rfl) ?_
   have hk19 : (decide ((faultP (po nd pl L)) = (faultP (po nd pl L)))) = true := decide_eq_true rfl
   refine l_part 36 rfl (fun _ => ?_) (fun hx => absurd (hk19.symm.trans hx) (by decide))
   refine l_q (q_move (v := .int _ _) rfl rfl) ?_
   refine l_q (q_move (v := .int _ _) rfl rfl) ?_
   refine l_q (q_eql rfl rfl rfl) ?_
   refine l_q (q_pick_t (v := .bool _) rfl rfl rfl) ?_
   refine l_q (q_move (v := .bool _) rfl rfl) ?_
   have hk20 : (decide (((rulesR nd pl L (R.map (·.xs))).2) = (planP (po nd pl L) (R.map (·.xs))))) = true := decide_eq_true rulesR_2
   refine l_part 41 rfl (fun _ => ?_) (fun hx => absurd (hk20.symm.trans hx) (by decide))
   refine l_q (q_move (v := .bool _) rfl rfl) ?_
   refine l_q (q_move (v := .int _ _) rfl rfl) ?_
   refine l_q (q_eql rfl rfl rfl) ?_
   refine l_q (q_move (v := .bool _) rfl rfl) ?_
   refine l_part 45 rfl (fun hc21 => ?_) (fun hc21 => ?_)
   ·
    replace hc21 := dt hc21
    have hp := hc21
    obtain ⟨hok, hI⟩ := plan_IsR hp
    have hRn : R.length = nd.length := by have := hI.1; rwa [List.length_map] at this
    refine l_q (q_load_agg (n := 3) Tryz.isAgg26 Tryz.sizeOf26 rfl ((hb1.cells' (cs' := [_, _, _]) 0 3 rfl)) rfl rfl) ?_
    refine l_q (q_move (v := .slice _ _ _) rfl rfl) ?_
    refine l_o (o_call Tryz.call24 rfl (rules10_ret na nc nd pa pc pl ca cc L _ _ R _ (hpo.below hB) hok (hR.below hB) (hRr.below hB) hRl hRx (by omega)) rfl ?_)
    rintro _ w22 ⟨rfl, hE22⟩
    replace hB := below_ext hB hE22 hsz
    replace hsz := Nat.le_trans hsz hE22.size
    refine l_q (q_pick_t (v := .bool _) rfl rfl rfl) ?_
    refine l_q (q_eql_bool Tryz.underlying4 rfl rfl rfl) ?_
    refine l_q (q_pick_t (v := .bool _) rfl rfl rfl) ?_
    refine l_q (q_move (v := .bool _) rfl rfl) ?_
    have hk23 : (((rulesR nd pl L (R.map (·.xs))).1) == (rulesX pl (R.map (·.xs)))) = true := by rw [rulesR_t hp]; simp
    refine l_part 52 rfl (fun _ => ?_) (fun hx => absurd (hk23.symm.trans hx) (by decide))
    refine l_o (o_call Tryz.call17 rfl (awake_ret _) rfl ?_)
    rintro _ w24 ⟨rfl, hE24⟩
    replace hB := below_ext hB hE24 hsz
    replace hsz := Nat.le_trans hsz hE24.size
    refine l_q (q_pick_t (v := .bool _) rfl rfl rfl) ?_
    refine l_q (q_assign (v := .bool _) rfl rfl) ?_
    refine l_nil ?_
    refine r_forget [(4, .bool _)] ⟨rfl, trivial⟩ (fun e25 => ?_)
    refine r_ret_ (vs := [.bool _]) rfl Tryz.func3 rfl (.nil _) ⟨rfl, trivial⟩ ?_
    exact ⟨rfl, Ext.of_below hB⟩
   ·
    replace hc21 := df hc21
    have hp := hc21
    refine l_q (q_skip rfl) ?_
    refine l_q (q_skip rfl) ?_
    refine l_q (q_skip rfl) ?_
    refine l_q (q_pick_f (v := .bool _) rfl rfl rfl) ?_
    refine l_q (q_eql_bool Tryz.underlying4 rfl rfl rfl) ?_
    refine l_q (q_pick_t (v := .bool _) rfl rfl rfl) ?_
    refine l_q (q_move (v := .bool _) rfl rfl) ?_
    have hk26 : (((rulesR nd pl L (R.map (·.xs))).1) == false) = true := by rw [rulesR_f hp]; simp
    refine l_part 52 rfl (fun _ => ?_) (fun hx => absurd (hk26.symm.trans hx) (by decide))
    refine l_o (o_call Tryz.call17 rfl (awake_ret _) rfl ?_)
    rintro _ w27 ⟨rfl, hE27⟩
    replace hB := below_ext hB hE27 hsz
    replace hsz := Nat.le_trans hsz hE27.size
    refine l_q (q_pick_t (v := .bool _) rfl rfl rfl) ?_
    refine l_q (q_assign (v := .bool _) rfl rfl) ?_
    refine l_nil ?_
    refine r_forget [(4, .bool _)] ⟨rfl, trivial⟩ (fun e28 => ?_)
    refine r_ret_ (vs := [.bool _]) rfl Tryz.func3 rfl (.nil _) ⟨rfl, trivial⟩ ?_
    exact ⟨rfl, Ext.of_below hB⟩
end Go.Proofs.YtgdanglidienmaaGreat
