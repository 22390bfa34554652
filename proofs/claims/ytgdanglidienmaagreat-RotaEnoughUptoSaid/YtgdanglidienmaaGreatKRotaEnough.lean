/- Contracts. -/
import Derived.Test.YtgdanglidienmaaGreatRS
import Derived.Test.YtgdanglidienmaaGreatRK
set_option linter.unusedVariables false
set_option linter.unusedSimpArgs false
namespace Go.Proofs.YtgdanglidienmaaGreat
open Go Go.RowKit Go.Gv Go.Fl


theorem rotaEnough_ret (na : Option Addr) (nc : Nat) (nd : List Int) (pa : Option Addr) (pc : Nat) (pl : List PV) (ca : Option Addr) (cc : Nat) (L : List SV) (w : World) (hpo : PoAt w na nc nd pa pc pl ca cc L) (hbg : PoBig nd pl L) : Ret Tryz.prog 5 [.agg ⟨[.slice na nd.length nc, .slice pa pl.length pc, .slice ca L.length cc]⟩] w (fun v w' => v = .bool true ∧ Ext w w') := by
 obtain ⟨hnl, hpll, hLl, hLs, hPb⟩ := id hbg
 have hB := Below.refl w.heap.size w
 have hsz : w.heap.size ≤ w.heap.size := Nat.le_refl _
 refine ret_of_runs (args := [_]) Tryz.func5 rfl (Nat.le_of_ble_eq_true rfl) (by kernel_rfl) ?_
 refine r_seq (r_region' ?_)
 refine l_o (o_box rfl rfl rfl ?_)
 intro b1 w1 hzl1 hzr1 _ hb1 hE1
 have hbs_b1 : w.heap.size ≤ b1 := Nat.le_trans hsz hzl1
 replace hB := below_ext hB hE1 hsz
 replace hsz := Nat.le_trans hsz hE1.size
 refine l_q (q_assign (v := .bool _) rfl rfl) ?_
 refine l_nil (r_seq (r_seq (r_region' ?_)))
 refine l_q (q_load_agg (n := 3) Tryz.isAgg26 Tryz.sizeOf26 rfl ((hb1.cells' (cs' := [_, _, _]) 0 3 rfl)) rfl rfl) ?_
 refine l_o (o_call Tryz.call27 rfl (small_ret na nc nd pa pc pl ca cc L _ (hpo.below hB) hbg) rfl ?_)
 rintro _ w2 ⟨bb2, rfl, hsml, hE2⟩
 replace hB := below_ext hB hE2 hsz
 replace hb1 := hb1.ext hE2
 replace hsz := Nat.le_trans hsz hE2.size
 refine l_q (q_not rfl rfl) ?_
 refine l_q (q_move (v := .bool _) rfl rfl) ?_
 refine l_part 11 rfl (fun hc3 => ?_) (fun hc3 => ?_)
 ·
  replace hc3 := nt hc3
  refine l_q (q_skip rfl) ?_
  refine l_q (q_skip rfl) ?_
  refine l_q (q_skip rfl) ?_
  refine l_q (q_skip rfl) ?_
  refine l_q (q_skip rfl) ?_
  refine l_q (q_skip rfl) ?_
  refine l_q (q_skip rfl) ?_
  refine l_q (q_skip rfl) ?_
  refine l_q (q_skip rfl) ?_
  refine l_q (q_skip rfl) ?_
  refine l_q (q_skip rfl) ?_
  refine l_q (q_skip rfl) ?_
  refine l_q (q_skip rfl) ?_
  refine l_q (q_pick_t (v := .bool _) rfl rfl rfl) ?_
  refine l_nil ?_
  refine r_forget [(1, .pointer _), (25, .bool _)] ⟨rfl, rfl, trivial⟩ (fun e4 => ?_)
  refine r_cond_t rfl ?_
  refine r_seq (r_region' ?_)
  refine l_o (o_call Tryz.call17 rfl (awake_ret _) rfl ?_)
  rintro _ w5 ⟨rfl, hE5⟩
  replace hB := below_ext hB hE5 hsz
  replace hb1 := hb1.ext hE5
  replace hsz := Nat.le_trans hsz hE5.size
  refine l_q (q_assign (v := .bool _) rfl rfl) ?_
  refine l_nil ?_
  refine r_ret_ (vs := [.bool _]) rfl Tryz.func5 rfl (.nil _) ⟨rfl, trivial⟩ ?_
  exact ⟨rfl, Ext.of_below hB⟩
 ·
  replace hc3 := nf hc3
  have hs0 := hsml hc3
  refine l_q (q_load_agg (n := 3) Tryz.isAgg26 Tryz.sizeOf26 rfl ((hb1.cells' (cs' := [_, _, _]) 0 3 rfl)) rfl rfl) ?_
  refine l_o (o_call Tryz.call23 rfl (lfault10_ret na nc nd pa pc pl ca cc L _ (hpo.below hB) hbg) rfl ?_)
  rintro _ w6 ⟨rfl, hE6⟩
  replace hB := below_ext hB hE6 hsz
  replace hb1 := hb1.ext hE6
  replace hsz := Nat.le_trans hsz hE6.size
  refine l_q (q_eql rfl rfl rfl) ?_
  refine l_q (q_move (v := .bool _) rfl rfl) ?_
  refine l_part 15 rfl (fun hc7 => ?_) (fun hc7 => ?_)
  ·
   replace hc7 := dt hc7
   have hok9 : faultP (po nd pl L) = 0 := hc7
   have hb9 := po_ok hok9
   have hm20 := Nat.mul_le_mul hb9.2.1.2 hb9.1.2
   have hm9 : ((pl.length * nd.length : Nat) : Int) = (pl.length : Int) * (nd.length : Int) := Int.natCast_mul _ _
   refine l_q (q_fieldAddr (o' := 1) rfl fld26_1 rfl) ?_
   refine l_q (q_load Tryz.isAgg23 rfl ((hb1.has (o := 1) rfl)) rfl) ?_
   refine l_q (q_len rfl Tryz.underlying23 rfl rfl) ?_
   refine l_q (q_fieldAddr (o' := 0) rfl fld26_0 rfl) ?_
   refine l_q (q_load Tryz.isAgg22 rfl ((hb1.has (o := 0) rfl)) rfl) ?_
   refine l_q (q_len rfl Tryz.underlying22 rfl rfl) ?_
   refine l_q (q_mul rfl rfl (by omega) rfl) ?_
   refine l_q (q_gtr rfl rfl rfl) ?_
   refine l_q (q_pick_t (v := .bool _) rfl rfl rfl) ?_
   refine l_q (q_pick_f (v := .bool _) rfl rfl rfl) ?_
   refine l_nil ?_
   refine r_forget [(1, .pointer _), (25, .bool _)] ⟨rfl, rfl, trivial⟩ (fun e8 => ?_)
   refine r_cond rfl (fun hc9 => ?_) (fun hc9 => ?_)
   ·
    replace hc9 := dt hc9
    refine r_seq (r_region' ?_)
    refine l_o (o_call Tryz.call17 rfl (awake_ret _) rfl ?_)
    rintro _ w10 ⟨rfl, hE10⟩
    replace hB := below_ext hB hE10 hsz
    replace hb1 := hb1.ext hE10
    replace hsz := Nat.le_trans hsz hE10.size
    refine l_q (q_assign (v := .bool _) rfl rfl) ?_
    refine l_nil ?_
    refine r_ret_ (vs := [.bool _]) rfl Tryz.func5 rfl (.nil _) ⟨rfl, trivial⟩ ?_
    exact ⟨rfl, Ext.of_below hB⟩
   ·
    replace hc9 := dlt hc9
    refine r_skip (r_seq (r_region' ?_))
    refine l_q (q_load_agg (n := 3) Tryz.isAgg26 Tryz.sizeOf26 rfl ((hb1.cells' (cs' := [_, _, _]) 0 3 rfl)) rfl rfl) ?_
    refine l_o (o_call Tryz.call19 rfl (post10_ret na nc nd pa pc pl ca cc L _ (hpo.below hB) hbg) rfl ?_)
    rintro _ w11 ⟨pna11, pnc11, ppa11, ppc11, ppl11, pca11, pcc11, pL11, rfl, hpo11, hpp11, hpL11, hE11⟩
    replace hB := below_ext hB hE11 hsz
    replace hb1 := hb1.ext hE11
    replace hsz := Nat.le_trans hsz hE11.size
    have hbg11 := post_big hpp11 hpL11 hbg
    refine l_o (o_call Tryz.call28 rfl ((by have h := enough_ret pna11 pnc11 nd ppa11 ppc11 ppl11 pca11 pcc11 pL11 _ hpo11 hbg11.1 hbg11.2.1 hbg11.2.2.1 hbg11.2.2.2.1; rw [enough_pn hpp11 hpL11] at h; exact h)) rfl ?_)
    rintro _ w12 ⟨ea12, ec12, rfl, he12, hE12⟩
    replace hB := below_ext hB hE12 hsz
    replace hb1 := hb1.ext hE12
    replace hsz := Nat.le_trans hsz hE12.size
    refine l_q (q_move (v := .tuple _) rfl rfl) ?_
    refine l_q (q_extract (vs := [_, _]) (v := .slice _ _ _) rfl rfl rfl) ?_
    refine l_q (q_extract (vs := [_, _]) (v := .int _ _) rfl rfl rfl) ?_
    refine l_q (q_assign (v := .slice _ _ _) rfl rfl) ?_
    refine l_q (q_assign (v := .int _ _) rfl rfl) ?_
    refine l_nil (r_seq (r_seq (r_region' ?_)))
    refine l_q (q_load_agg (n := 3) Tryz.isAgg26 Tryz.sizeOf26 rfl ((hb1.cells' (cs' := [_, _, _]) 0 3 rfl)) rfl rfl) ?_
    refine l_o (o_call Tryz.call23 rfl (lfault10_ret na nc nd pa pc pl ca cc L _ (hpo.below hB) hbg) rfl ?_)
    rintro _ w13 ⟨rfl, hE13⟩
    replace hB := below_ext hB hE13 hsz
    replace hb1 := hb1.ext hE13
    replace he12 := he12.ext hE13
    replace hsz := Nat.le_trans hsz hE13.size
    refine l_q (q_assign (v := .int _ _) rfl rfl) ?_
    refine l_nil (r_seq (r_region' ?_))
    refine l_q (q_move (v := .int _ _) rfl rfl) ?_
    refine l_q (q_neq rfl rfl rfl) ?_
    refine l_nil ?_
    refine r_forget [(1, .pointer _), (3, .slice _ _ _), (4, .int _ _), (5, .int _ _), (36, .bool _)] ⟨rfl, rfl, rfl, rfl, rfl, trivial⟩ (fun e14 => ?_)
    refine r_cond rfl (fun hc15 => ?_) (fun hc15 => ?_)
    ·
     replace hc15 := df (nt hc15)
     have hf := hc15
     have heR := enough_e (L := L) hf
     refine r_seq (r_region' ?_)
     refine l_q (q_move (v := .int _ _) rfl rfl) ?_
     refine l_q (q_move (v := .int _ _) rfl rfl) ?_
     refine l_q (q_eql rfl rfl rfl) ?_
     refine l_q (q_move (v := .bool _) rfl rfl) ?_
     have hk16 : (decide (((enoughR nd pl L).1) = (faultP (po nd pl L)))) = true := decide_eq_true (by rw [heR])
     refine l_part 40 rfl (fun _ => ?_) (fun hx => absurd (hk16.symm.trans hx) (by decide))
     refine l_q (q_move (v := .slice _ _ _) rfl rfl) ?_
     refine l_q (q_len rfl Tryz.underlying22 rfl rfl) ?_
     refine l_q (q_eql rfl rfl rfl) ?_
     refine l_q (q_pick_t (v := .bool _) rfl rfl rfl) ?_
     refine l_q (q_move (v := .bool _) rfl rfl) ?_
     have hk17 : (decide ((((enoughR nd pl L).2).length : Int) = 0)) = true := by rw [heR]; rfl
     refine l_part 45 rfl (fun _ => ?_) (fun hx => absurd (hk17.symm.trans hx) (by decide))
     refine l_o (o_call Tryz.call17 rfl (awake_ret _) rfl ?_)
     rintro _ w18 ⟨rfl, hE18⟩
     replace hB := below_ext hB hE18 hsz
     replace hb1 := hb1.ext hE18
     replace he12 := he12.ext hE18
     replace hsz := Nat.le_trans hsz hE18.size
     refine l_q (q_pick_t (v := .bool _) rfl rfl rfl) ?_
     refine l_q (q_assign (v := .bool _) rfl rfl) ?_
     refine l_nil ?_
     refine r_forget [(2, .bool _)] ⟨rfl, trivial⟩ (fun e19 => ?_)
     refine r_ret_ (vs := [.bool _]) rfl Tryz.func5 rfl (.nil _) ⟨rfl, trivial⟩ ?_
     exact ⟨rfl, Ext.of_below hB⟩
    ·
     replace hc15 := dt (nf hc15)
     have hok : faultP (po nd pl L) = 0 := by simpa using hc15
     have hsm := hs0 hok
     obtain ⟨⟨hn1, hn5⟩, ⟨hp1, hp4⟩, hL4, hnn, hpp, hLL⟩ := po_ok hok
     refine r_skip (r_seq (r_region' ?_))
     refine l_q (q_load_agg (n := 3) Tryz.isAgg26 Tryz.sizeOf26 rfl ((hb1.cells' (cs' := [_, _, _]) 0 3 rfl)) rfl rfl) ?_
     refine l_o (o_call Tryz.call29 rfl (enough10_ret na nc nd pa pc pl ca cc L _ (hpo.below hB) hok hsm) rfl ?_)
     rintro _ w20 ⟨xa20, xc20, rfl, hE10, hE20⟩
     replace hB := below_ext hB hE20 hsz
     replace hb1 := hb1.ext hE20
     replace he12 := he12.ext hE20
     replace hsz := Nat.le_trans hsz hE20.size
     refine l_q (q_move (v := .tuple _) rfl rfl) ?_
     refine l_q (q_extract (vs := [_, _]) (v := .slice _ _ _) rfl rfl rfl) ?_
     refine l_q (q_extract (vs := [_, _]) (v := .bool _) rfl rfl rfl) ?_
     refine l_q (q_assign (v := .slice _ _ _) rfl rfl) ?_
     refine l_q (q_assign (v := .bool _) rfl rfl) ?_
     refine l_nil (r_seq (r_seq (r_region' ?_)))
     refine l_q (q_move (v := .bool _) rfl rfl) ?_
     refine l_q (q_not rfl rfl) ?_
     refine l_nil ?_
     refine r_forget [(3, .slice _ _ _), (4, .int _ _), (6, .slice _ _ _), (54, .bool _)] ⟨rfl, rfl, rfl, rfl, trivial⟩ (fun e21 => ?_)
     refine r_cond rfl (fun hc22 => ?_) (fun hc22 => ?_)
     ·
      replace hc22 := nt hc22
      have heR := enoughN_no hok hc22
      refine r_seq (r_region' ?_)
      refine l_q (q_move (v := .int _ _) rfl rfl) ?_
      refine l_q (q_eql rfl rfl rfl) ?_
      refine l_q (q_move (v := .bool _) rfl rfl) ?_
      have hk23 : (decide (((enoughR nd pl L).1) = 10)) = true := decide_eq_true (by rw [heR])
      refine l_part 57 rfl (fun _ => ?_) (fun hx => absurd (hk23.symm.trans hx) (by decide))
      refine l_q (q_move (v := .slice _ _ _) rfl rfl) ?_
      refine l_q (q_len rfl Tryz.underlying22 rfl rfl) ?_
      refine l_q (q_eql rfl rfl rfl) ?_
      refine l_q (q_pick_t (v := .bool _) rfl rfl rfl) ?_
      refine l_q (q_move (v := .bool _) rfl rfl) ?_
      have hk24 : (decide ((((enoughR nd pl L).2).length : Int) = 0)) = true := by rw [heR]; rfl
      refine l_part 62 rfl (fun _ => ?_) (fun hx => absurd (hk24.symm.trans hx) (by decide))
      refine l_o (o_call Tryz.call17 rfl (awake_ret _) rfl ?_)
      rintro _ w25 ⟨rfl, hE25⟩
      replace hB := below_ext hB hE25 hsz
      replace hb1 := hb1.ext hE25
      replace he12 := he12.ext hE25
      replace hE10 := hE10.ext hE25
      replace hsz := Nat.le_trans hsz hE25.size
      refine l_q (q_pick_t (v := .bool _) rfl rfl rfl) ?_
      refine l_q (q_assign (v := .bool _) rfl rfl) ?_
      refine l_nil ?_
      refine r_forget [(2, .bool _)] ⟨rfl, trivial⟩ (fun e26 => ?_)
      refine r_ret_ (vs := [.bool _]) rfl Tryz.func5 rfl (.nil _) ⟨rfl, trivial⟩ ?_
      exact ⟨rfl, Ext.of_below hB⟩
     ·
      replace hc22 := nf hc22
      have heR := enoughN_yes hok hc22
      refine r_skip (r_seq (r_region' ?_))
      refine l_q (q_move (v := .int _ _) rfl rfl) ?_
      refine l_q (q_eql rfl rfl rfl) ?_
      refine l_q (q_move (v := .bool _) rfl rfl) ?_
      have hk27 : (decide (((enoughR nd pl L).1) = 0)) = true := decide_eq_true (by rw [heR])
      refine l_part 67 rfl (fun _ => ?_) (fun hx => absurd (hk27.symm.trans hx) (by decide))
      refine l_q (q_move (v := .slice _ _ _) rfl rfl) ?_
      refine l_q (q_move (v := .slice _ _ _) rfl rfl) ?_
      refine l_o (o_call Tryz.call30 rfl (same10_ret _ _ ((enoughR nd pl L).2) _ _ (enoughN nd pl (L.map (·.xs)) (2 ^ pl.length - 1)) _ he12 (by rw [heR]; exact Nat.le_trans (enoughN_len hok) (by decide)) hE10 (Nat.le_trans (enoughN_len hok) (by decide))) rfl ?_)
      rintro _ w28 ⟨rfl, hE28⟩
      replace hB := below_ext hB hE28 hsz
      replace hb1 := hb1.ext hE28
      replace hE10 := hE10.ext hE28
      replace hsz := Nat.le_trans hsz hE28.size
      refine l_q (q_pick_t (v := .bool _) rfl rfl rfl) ?_
      refine l_q (q_move (v := .bool _) rfl rfl) ?_
      have hk29 : (decide (((enoughR nd pl L).2) = (enoughN nd pl (L.map (·.xs)) (2 ^ pl.length - 1)))) = true := decide_eq_true (by rw [heR])
      refine l_part 72 rfl (fun _ => ?_) (fun hx => absurd (hk29.symm.trans hx) (by decide))
      refine l_o (o_call Tryz.call17 rfl (awake_ret _) rfl ?_)
      rintro _ w30 ⟨rfl, hE30⟩
      replace hB := below_ext hB hE30 hsz
      replace hb1 := hb1.ext hE30
      replace hE10 := hE10.ext hE30
      replace hsz := Nat.le_trans hsz hE30.size
      refine l_q (q_pick_t (v := .bool _) rfl rfl rfl) ?_
      refine l_q (q_assign (v := .bool _) rfl rfl) ?_
      refine l_nil ?_
      refine r_forget [(2, .bool _)] ⟨rfl, trivial⟩ (fun e31 => ?_)
      refine r_ret_ (vs := [.bool _]) rfl Tryz.func5 rfl (.nil _) ⟨rfl, trivial⟩ ?_
      exact ⟨rfl, Ext.of_below hB⟩
  ·
   replace hc7 := df hc7
   refine l_q (q_skip rfl) ?_
   refine l_q (q_skip rfl) ?_
   refine l_q (q_skip rfl) ?_
   refine l_q (q_skip rfl) ?_
   refine l_q (q_skip rfl) ?_
   refine l_q (q_skip rfl) ?_
   refine l_q (q_skip rfl) ?_
   refine l_q (q_skip rfl) ?_
   refine l_q (q_pick_f (v := .bool _) rfl rfl rfl) ?_
   refine l_q (q_pick_f (v := .bool _) rfl rfl rfl) ?_
   refine l_nil ?_
   refine r_forget [(1, .pointer _), (25, .bool _)] ⟨rfl, rfl, trivial⟩ (fun e32 => ?_)
   refine r_cond_f rfl ?_
   refine r_skip (r_seq (r_region' ?_))
   refine l_q (q_load_agg (n := 3) Tryz.isAgg26 Tryz.sizeOf26 rfl ((hb1.cells' (cs' := [_, _, _]) 0 3 rfl)) rfl rfl) ?_
   refine l_o (o_call Tryz.call19 rfl (post10_ret na nc nd pa pc pl ca cc L _ (hpo.below hB) hbg) rfl ?_)
   rintro _ w33 ⟨pna33, pnc33, ppa33, ppc33, ppl33, pca33, pcc33, pL33, rfl, hpo33, hpp33, hpL33, hE33⟩
   replace hB := below_ext hB hE33 hsz
   replace hb1 := hb1.ext hE33
   replace hsz := Nat.le_trans hsz hE33.size
   have hbg33 := post_big hpp33 hpL33 hbg
   refine l_o (o_call Tryz.call28 rfl ((by have h := enough_ret pna33 pnc33 nd ppa33 ppc33 ppl33 pca33 pcc33 pL33 _ hpo33 hbg33.1 hbg33.2.1 hbg33.2.2.1 hbg33.2.2.2.1; rw [enough_pn hpp33 hpL33] at h; exact h)) rfl ?_)
   rintro _ w34 ⟨ea34, ec34, rfl, he34, hE34⟩
   replace hB := below_ext hB hE34 hsz
   replace hb1 := hb1.ext hE34
   replace hsz := Nat.le_trans hsz hE34.size
   refine l_q (q_move (v := .tuple _) rfl rfl) ?_
   refine l_q (q_extract (vs := [_, _]) (v := .slice _ _ _) rfl rfl rfl) ?_
   refine l_q (q_extract (vs := [_, _]) (v := .int _ _) rfl rfl rfl) ?_
   refine l_q (q_assign (v := .slice _ _ _) rfl rfl) ?_
   refine l_q (q_assign (v := .int _ _) rfl rfl) ?_
   refine l_nil (r_seq (r_seq (r_region' ?_)))
   refine l_q (q_load_agg (n := 3) Tryz.isAgg26 Tryz.sizeOf26 rfl ((hb1.cells' (cs' := [_, _, _]) 0 3 rfl)) rfl rfl) ?_
   refine l_o (o_call Tryz.call23 rfl (lfault10_ret na nc nd pa pc pl ca cc L _ (hpo.below hB) hbg) rfl ?_)
   rintro _ w35 ⟨rfl, hE35⟩
   replace hB := below_ext hB hE35 hsz
   replace hb1 := hb1.ext hE35
   replace he34 := he34.ext hE35
   replace hsz := Nat.le_trans hsz hE35.size
   refine l_q (q_assign (v := .int _ _) rfl rfl) ?_
   refine l_nil (r_seq (r_region' ?_))
   refine l_q (q_move (v := .int _ _) rfl rfl) ?_
   refine l_q (q_neq rfl rfl rfl) ?_
   refine l_nil ?_
   refine r_forget [(1, .pointer _), (3, .slice _ _ _), (4, .int _ _), (5, .int _ _), (36, .bool _)] ⟨rfl, rfl, rfl, rfl, rfl, trivial⟩ (fun e36 => ?_)
   refine r_cond rfl (fun hc37 => ?_) (fun hc37 => ?_)
   ·
    replace hc37 := df (nt hc37)
    have hf := hc37
    have heR := enough_e (L := L) hf
    refine r_seq (r_region' ?_)
    refine l_q (q_move (v := .int _ _) rfl rfl) ?_
    refine l_q (q_move (v := .int _ _) rfl rfl) ?_
    refine l_q (q_eql rfl rfl rfl) ?_
    refine l_q (q_move (v := .bool _) rfl rfl) ?_
    have hk38 : (decide (((enoughR nd pl L).1) = (faultP (po nd pl L)))) = true := decide_eq_true (by rw [heR])
    refine l_part 40 rfl (fun _ => ?_) (fun hx => absurd (hk38.symm.trans hx) (by decide))
    refine l_q (q_move (v := .slice _ _ _) rfl rfl) ?_
    refine l_q (q_len rfl Tryz.underlying22 rfl rfl) ?_
    refine l_q (q_eql rfl rfl rfl) ?_
    refine l_q (q_pick_t (v := .bool _) rfl rfl rfl) ?_
    refine l_q (q_move (v := .bool _) rfl rfl) ?_
    have hk39 : (decide ((((enoughR nd pl L).2).length : Int) = 0)) = true := by rw [heR]; rfl
    refine l_part 45 rfl (fun _ => ?_) (fun hx => absurd (hk39.symm.trans hx) (by decide))
    refine l_o (o_call Tryz.call17 rfl (awake_ret _) rfl ?_)
    rintro _ w40 ⟨rfl, hE40⟩
    replace hB := below_ext hB hE40 hsz
    replace hb1 := hb1.ext hE40
    replace he34 := he34.ext hE40
    replace hsz := Nat.le_trans hsz hE40.size
    refine l_q (q_pick_t (v := .bool _) rfl rfl rfl) ?_
    refine l_q (q_assign (v := .bool _) rfl rfl) ?_
    refine l_nil ?_
    refine r_forget [(2, .bool _)] ⟨rfl, trivial⟩ (fun e41 => ?_)
    refine r_ret_ (vs := [.bool _]) rfl Tryz.func5 rfl (.nil _) ⟨rfl, trivial⟩ ?_
    exact ⟨rfl, Ext.of_below hB⟩
   ·
    replace hc37 := dt (nf hc37)
    have hok : faultP (po nd pl L) = 0 := by simpa using hc37
    have hsm := hs0 hok
    obtain ⟨⟨hn1, hn5⟩, ⟨hp1, hp4⟩, hL4, hnn, hpp, hLL⟩ := po_ok hok
    refine r_skip (r_seq (r_region' ?_))
    refine l_q (q_load_agg (n := 3) Tryz.isAgg26 Tryz.sizeOf26 rfl ((hb1.cells' (cs' := [_, _, _]) 0 3 rfl)) rfl rfl) ?_
    refine l_o (o_call Tryz.call29 rfl (enough10_ret na nc nd pa pc pl ca cc L _ (hpo.below hB) hok hsm) rfl ?_)
    rintro _ w42 ⟨xa42, xc42, rfl, hE10, hE42⟩
    replace hB := below_ext hB hE42 hsz
    replace he34 := he34.ext hE42
    replace hsz := Nat.le_trans hsz hE42.size
    refine l_q (q_move (v := .tuple _) rfl rfl) ?_
    refine l_q (q_extract (vs := [_, _]) (v := .slice _ _ _) rfl rfl rfl) ?_
    refine l_q (q_extract (vs := [_, _]) (v := .bool _) rfl rfl rfl) ?_
    refine l_q (q_assign (v := .slice _ _ _) rfl rfl) ?_
    refine l_q (q_assign (v := .bool _) rfl rfl) ?_
    refine l_nil (r_seq (r_seq (r_region' ?_)))
    refine l_q (q_move (v := .bool _) rfl rfl) ?_
    refine l_q (q_not rfl rfl) ?_
    refine l_nil ?_
    refine r_forget [(3, .slice _ _ _), (4, .int _ _), (6, .slice _ _ _), (54, .bool _)] ⟨rfl, rfl, rfl, rfl, trivial⟩ (fun e43 => ?_)
    refine r_cond rfl (fun hc44 => ?_) (fun hc44 => ?_)
    ·
     replace hc44 := nt hc44
     have heR := enoughN_no hok hc44
     refine r_seq (r_region' ?_)
     refine l_q (q_move (v := .int _ _) rfl rfl) ?_
     refine l_q (q_eql rfl rfl rfl) ?_
     refine l_q (q_move (v := .bool _) rfl rfl) ?_
     have hk45 : (decide (((enoughR nd pl L).1) = 10)) = true := decide_eq_true (by rw [heR])
     refine l_part 57 rfl (fun _ => ?_) (fun hx => absurd (hk45.symm.trans hx) (by decide))
     refine l_q (q_move (v := .slice _ _ _) rfl rfl) ?_
     refine l_q (q_len rfl Tryz.underlying22 rfl rfl) ?_
     refine l_q (q_eql rfl rfl rfl) ?_
     refine l_q (q_pick_t (v := .bool _) rfl rfl rfl) ?_
     refine l_q (q_move (v := .bool _) rfl rfl) ?_
     have hk46 : (decide ((((enoughR nd pl L).2).length : Int) = 0)) = true := by rw [heR]; rfl
     refine l_part 62 rfl (fun _ => ?_) (fun hx => absurd (hk46.symm.trans hx) (by decide))
     refine l_o (o_call Tryz.call17 rfl (awake_ret _) rfl ?_)
     rintro _ w47 ⟨rfl, hE47⟩
     replace hB := below_ext hB hE47 hsz
     replace he34 := he34.ext hE47
     replace hE10 := hE10.ext hE47
     replace hsz := Nat.le_trans hsz hE47.size
     refine l_q (q_pick_t (v := .bool _) rfl rfl rfl) ?_
     refine l_q (q_assign (v := .bool _) rfl rfl) ?_
     refine l_nil ?_
     refine r_forget [(2, .bool _)] ⟨rfl, trivial⟩ (fun e48 => ?_)
     refine r_ret_ (vs := [.bool _]) rfl Tryz.func5 rfl (.nil _) ⟨rfl, trivial⟩ ?_
     exact ⟨rfl, Ext.of_below hB⟩
    ·
     replace hc44 := nf hc44
     have heR := enoughN_yes hok hc44
     refine r_skip (r_seq (r_region' ?_))
     refine l_q (q_move (v := .int _ _) rfl rfl) ?_
     refine l_q (q_eql rfl rfl rfl) ?_
     refine l_q (q_move (v := .bool _) rfl rfl) ?_
     have hk49 : (decide (((enoughR nd pl L).1) = 0)) = true := decide_eq_true (by rw [heR])
     refine l_part 67 rfl (fun _ => ?_) (fun hx => absurd (hk49.symm.trans hx) (by decide))
     refine l_q (q_move (v := .slice _ _ _) rfl rfl) ?_
     refine l_q (q_move (v := .slice _ _ _) rfl rfl) ?_
     refine l_o (o_call Tryz.call30 rfl (same10_ret _ _ ((enoughR nd pl L).2) _ _ (enoughN nd pl (L.map (·.xs)) (2 ^ pl.length - 1)) _ he34 (by rw [heR]; exact Nat.le_trans (enoughN_len hok) (by decide)) hE10 (Nat.le_trans (enoughN_len hok) (by decide))) rfl ?_)
     rintro _ w50 ⟨rfl, hE50⟩
     replace hB := below_ext hB hE50 hsz
     replace hsz := Nat.le_trans hsz hE50.size
     refine l_q (q_pick_t (v := .bool _) rfl rfl rfl) ?_
     refine l_q (q_move (v := .bool _) rfl rfl) ?_
     have hk51 : (decide (((enoughR nd pl L).2) = (enoughN nd pl (L.map (·.xs)) (2 ^ pl.length - 1)))) = true := decide_eq_true (by rw [heR])
     refine l_part 72 rfl (fun _ => ?_) (fun hx => absurd (hk51.symm.trans hx) (by decide))
     refine l_o (o_call Tryz.call17 rfl (awake_ret _) rfl ?_)
     rintro _ w52 ⟨rfl, hE52⟩
     replace hB := below_ext hB hE52 hsz
     replace hsz := Nat.le_trans hsz hE52.size
     refine l_q (q_pick_t (v := .bool _) rfl rfl rfl) ?_
     refine l_q (q_assign (v := .bool _) rfl rfl) ?_
     refine l_nil ?_
     refine r_forget [(2, .bool _)] ⟨rfl, trivial⟩ (fun e53 => ?_)
     refine r_ret_ (vs := [.bool _]) rfl Tryz.func5 rfl (.nil _) ⟨rfl, trivial⟩ ?_
     exact ⟨rfl, Ext.of_below hB⟩
end Go.Proofs.YtgdanglidienmaaGreat
