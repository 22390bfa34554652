/- Contracts. -/
import Derived.Test.YtgdanglidienmaaGreatR25
import Derived.Test.YtgdanglidienmaaGreatR17
set_option linter.unusedVariables false
set_option linter.unusedSimpArgs false
namespace Go.Proofs.YtgdanglidienmaaGreat
open Go Go.RowKit Go.Gv Go.Fl

theorem en_none {nd : List Int} {pl : List PV} {L : List SV} (hok : faultP (po nd pl L) = 0) (h : ¬ (enoughR nd pl L).1 = 0) : enoughR nd pl L = (10, []) ∧ ∀ xs, risB xs (pl.length : Int) = true → canP nd pl (L.map (·.xs)) xs = false := by
  rcases enough_spec hok with ⟨h1, h2⟩ | ⟨l, h1, _⟩
  · refine ⟨h1, fun xs hx => ?_⟩
    rw [← Bool.not_eq_true]
    intro hc
    obtain ⟨R, hR, _, h3⟩ := (can_iff hok hx).1 hc
    rw [h2 R hR] at h3; cases h3
  · rw [h1] at h; exact absurd rfl h
theorem en_some {nd : List Int} {pl : List PV} {L : List SV} (hok : faultP (po nd pl L) = 0) (h : (enoughR nd pl L).1 = 0) : risB (enoughR nd pl L).2 (pl.length : Int) = true ∧ canP nd pl (L.map (·.xs)) (enoughR nd pl L).2 = true ∧ ∀ l', risB l' (pl.length : Int) = true → canP nd pl (L.map (·.xs)) l' = true → ltL l' (enoughR nd pl L).2 = false := by
  rcases enough_spec hok with ⟨h1, _⟩ | ⟨l, h1, h2⟩
  · rw [h1] at h; exact absurd h (by decide)
  · rw [h1]; exact h2
theorem ite_can {p : Prop} [Decidable p] (h : ¬ (if p then (0 : Int) else 10) = 10) : p := by
  by_cases hp : p
  · exact hp
  · rw [if_neg hp] at h; exact absurd rfl h


theorem rotaSmallest_ret (na : Option Addr) (nc : Nat) (nd : List Int) (pa : Option Addr) (pc : Nat) (pl : List PV) (ca : Option Addr) (cc : Nat) (L : List SV) (bt : Int) (w : World) (hpo : PoAt w na nc nd pa pc pl ca cc L) (hbg : PoBig nd pl L) (hbt : 0 ≤ bt ∧ bt ≤ 255) : Ret Tryz.prog 9 [.agg ⟨[.slice na nd.length nc, .slice pa pl.length pc, .slice ca L.length cc]⟩, .int .u8 bt] w (fun v w' => v = .bool true ∧ Ext w w') := by
 obtain ⟨hnl, hpll, hLl, hLs, hPb⟩ := id hbg
 have hB := Below.refl w.heap.size w
 have hsz : w.heap.size ≤ w.heap.size := Nat.le_refl _
 refine ret_of_runs (args := [_, _]) Tryz.func9 rfl (Nat.le_of_ble_eq_true rfl) (by kernel_rfl) ?_
 refine r_seq (r_region' ?_)
 refine l_o (o_box rfl rfl rfl ?_)
 intro b1 w1 hzl1 hzr1 _ hb1 hE1
 have hbs_b1 : w.heap.size ≤ b1 := Nat.le_trans hsz hzl1
 replace hB := below_ext hB hE1 hsz
 replace hsz := Nat.le_trans hsz hE1.size
 refine l_q (q_assign (v := .bool _) rfl rfl) ?_
 refine l_nil (r_seq (r_seq (r_region' ?_)))
 refine l_q (q_load_agg (n := 3) Tryz.isAgg26 Tryz.sizeOf26 rfl ((hb1.cells' (cs' := [_, _, _]) 0 3 rfl)) rfl rfl) ?_
 refine l_o (o_call Tryz.call40 rfl (ready10_ret na nc nd pa pc pl ca cc L _ (hpo.below hB) hbg) rfl ?_)
 rintro _ w2 ⟨bb2, rfl, hrdy2, hE2⟩
 replace hB := below_ext hB hE2 hsz
 replace hb1 := hb1.ext hE2
 replace hsz := Nat.le_trans hsz hE2.size
 have hrdy := hrdy2
 refine l_q (q_not rfl rfl) ?_
 refine l_nil ?_
 refine r_cond rfl (fun hc3 => ?_) (fun hc3 => ?_)
 ·
  replace hc3 := nt hc3
  refine r_seq (r_region' ?_)
  refine l_o (o_call Tryz.call17 rfl (awake_ret _) rfl ?_)
  rintro _ w4 ⟨rfl, hE4⟩
  replace hB := below_ext hB hE4 hsz
  replace hb1 := hb1.ext hE4
  replace hsz := Nat.le_trans hsz hE4.size
  refine l_q (q_assign (v := .bool _) rfl rfl) ?_
  refine l_nil ?_
  refine r_ret_ (vs := [.bool _]) rfl Tryz.func9 rfl (.nil _) ⟨rfl, trivial⟩ ?_
  exact ⟨rfl, Ext.of_below hB⟩
 ·
  replace hc3 := nf hc3
  have hok := hrdy hc3
  obtain ⟨⟨hn1, hn5⟩, ⟨hp1, hp4⟩, hL4, hnn, hpp, hLL⟩ := po_ok hok
  refine r_skip (r_seq (r_region' ?_))
  refine l_q (q_load_agg (n := 3) Tryz.isAgg26 Tryz.sizeOf26 rfl ((hb1.cells' (cs' := [_, _, _]) 0 3 rfl)) rfl rfl) ?_
  refine l_o (o_call Tryz.call19 rfl (post10_ret na nc nd pa pc pl ca cc L _ (hpo.below hB) hbg) rfl ?_)
  rintro _ w5 ⟨pna5, pnc5, ppa5, ppc5, ppl5, pca5, pcc5, pL5, rfl, hpo5, hpp5, hpL5, hE5⟩
  replace hB := below_ext hB hE5 hsz
  replace hb1 := hb1.ext hE5
  replace hsz := Nat.le_trans hsz hE5.size
  have hbg5 := post_big hpp5 hpL5 hbg
  refine l_o (o_call Tryz.call28 rfl ((by have h := enough_ret pna5 pnc5 nd ppa5 ppc5 ppl5 pca5 pcc5 pL5 _ hpo5 hbg5.1 hbg5.2.1 hbg5.2.2.1 hbg5.2.2.2.1; rw [enough_pn hpp5 hpL5] at h; exact h)) rfl ?_)
  rintro _ w6 ⟨ea6, ec6, rfl, he6, hE6⟩
  replace hB := below_ext hB hE6 hsz
  replace hb1 := hb1.ext hE6
  replace hsz := Nat.le_trans hsz hE6.size
  refine l_q (q_move (v := .tuple _) rfl rfl) ?_
  refine l_q (q_extract (vs := [_, _]) (v := .slice _ _ _) rfl rfl rfl) ?_
  refine l_q (q_extract (vs := [_, _]) (v := .int _ _) rfl rfl rfl) ?_
  refine l_q (q_assign (v := .slice _ _ _) rfl rfl) ?_
  refine l_q (q_assign (v := .int _ _) rfl rfl) ?_
  refine l_nil ?_
  refine r_forget [(1, .int _ _), (2, .pointer _), (5, .slice _ _ _), (6, .int _ _)] ⟨rfl, rfl, rfl, rfl, trivial⟩ (fun e7 => ?_)
  refine r_seq ?_
  obtain ⟨N, hN, hN16, hNn⟩ := two_pow hp4
  have hNp : 0 < N := by rw [hNn]; exact Nat.two_pow_pos _
  have hq1 := Int.emod_nonneg bt (show (1 * 2 ^ ((pl.length : Int).toNat) : Int) ≠ 0 by omega)
  have hq2 := Int.emod_lt_of_pos bt (show (0 : Int) < 1 * 2 ^ ((pl.length : Int).toNat) by omega)
  obtain ⟨m, hm⟩ : ∃ m : Nat, bt % (1 * 2 ^ ((pl.length : Int).toNat)) = (m : Int) := ⟨_, (Int.toNat_of_nonneg hq1).symm⟩
  have hmN : m < 2 ^ pl.length := by rw [← hNn]; omega
  have hris := bits_ris hmN (by omega)
  have hm16 : m < 16 := by omega
  refine r_region' ?_
  refine l_q (q_move (v := .int _ _) rfl rfl) ?_
  refine l_q (q_toInt Tryz.underlying5 Tryz.underlying3 rfl (by omega) rfl) ?_
  refine l_q (q_fieldAddr (o' := 1) rfl fld26_1 rfl) ?_
  refine l_q (q_load Tryz.isAgg23 rfl ((hb1.has (o := 1) rfl)) rfl) ?_
  refine l_q (q_len rfl Tryz.underlying23 rfl rfl) ?_
  refine l_q (q_toUint Tryz.underlying3 Tryz.underlying75 rfl (by omega) rfl) ?_
  refine l_q (q_shl rfl rfl (by omega) (by omega) rfl) ?_
  refine l_q (q_rem rfl rfl (by omega) rfl) ?_
  refine l_o (o_call Tryz.call45 rfl ((by have h := bits_ret m w6 (by omega); rw [← hm] at h; exact h)) rfl ?_)
  rintro _ w8 ⟨a8_0, c8_0, rfl, ho8_0, hE8⟩
  replace ho8_0 := own_mono ho8_0 (show w.heap.size ≤ _ by omega)
  replace hB := below_ext hB hE8 hsz
  replace hb1 := hb1.ext hE8
  replace he6 := he6.ext hE8
  replace hsz := Nat.le_trans hsz hE8.size
  refine l_q (q_assign (v := .slice _ _ _) rfl rfl) ?_
  refine l_nil ?_
  refine r_forget [(2, .pointer _), (5, .slice _ _ _), (6, .int _ _), (7, .slice _ _ _)] ⟨rfl, rfl, rfl, rfl, trivial⟩ (fun e9 => ?_)
  refine r_seq (r_region' ?_)
  refine l_q (q_load_agg (n := 3) Tryz.isAgg26 Tryz.sizeOf26 rfl ((hb1.cells' (cs' := [_, _, _]) 0 3 rfl)) rfl rfl) ?_
  refine l_q (q_move (v := .slice _ _ _) rfl rfl) ?_
  refine l_o (o_call Tryz.call47 rfl (onlySome_ret na nc nd pa pc pl ca cc L a8_0 c8_0 (bitsL m) _ (hpo.below hB) hbg (Row.of_owns ho8_0) (by first | omega | exact Nat.le_trans (bits_len _) (by decide) | exact Nat.le_trans (en_len hok) (by decide))) rfl ?_)
  rintro _ w10 ⟨oa10, oc10, M10, rfl, hpo10, hO10, hE10⟩
  replace hB := below_ext hB hE10 hsz
  replace hb1 := hb1.ext hE10
  replace he6 := he6.ext hE10
  replace ho8_0 := own_ext ho8_0 hE10
  replace hsz := Nat.le_trans hsz hE10.size
  have hbg10 := only_big hO10 hbg
  have hbM1 := only_best hO10 hok hris
  refine l_o (o_call Tryz.call19 rfl (post10_ret na nc nd oa10 oc10 M10 ca cc L _ hpo10 hbg10) rfl ?_)
  rintro _ w11 ⟨pna11, pnc11, ppa11, ppc11, ppl11, pca11, pcc11, pL11, rfl, hpo11, hpp11, hpL11, hE11⟩
  replace hB := below_ext hB hE11 hsz
  replace hb1 := hb1.ext hE11
  replace he6 := he6.ext hE11
  replace ho8_0 := own_ext ho8_0 hE11
  replace hsz := Nat.le_trans hsz hE11.size
  have hbg11 := post_big hpp11 hpL11 hbg10
  refine l_o (o_call Tryz.call46 rfl ((by have h := best_ret pna11 pnc11 nd ppa11 ppc11 ppl11 pca11 pcc11 pL11 _ hpo11 hbg11.1 hbg11.2.1 hbg11.2.2.1 hbg11.2.2.2.1; rw [best_pn hpp11 hpL11] at h; exact h)) rfl ?_)
  rintro _ w12 ⟨ra12, rc12, R12, rfl, hRo12, hRs12, hRm12, hE12⟩
  replace hB := below_ext hB hE12 hsz
  replace hb1 := hb1.ext hE12
  replace he6 := he6.ext hE12
  replace ho8_0 := own_ext ho8_0 hE12
  replace hsz := Nat.le_trans hsz hE12.size
  have hR12 := Row.of_owns hRo12
  have hRr12 := hRs12.rows
  refine l_q (q_move (v := .tuple _) rfl rfl) ?_
  refine l_q (q_extract (vs := [_, _, _]) (v := .slice _ _ _) rfl rfl rfl) ?_
  refine l_q (q_extract (vs := [_, _, _]) (v := .int _ _) rfl rfl rfl) ?_
  refine l_q (q_extract (vs := [_, _, _]) (v := .int _ _) rfl rfl rfl) ?_
  refine l_q (q_assign (v := .slice _ _ _) rfl rfl) ?_
  refine l_q (q_assign (v := .int _ _) rfl rfl) ?_
  refine l_q (q_assign (v := .int _ _) rfl rfl) ?_
  refine l_nil ?_
  refine r_forget [(2, .pointer _), (5, .slice _ _ _), (6, .int _ _), (7, .slice _ _ _), (10, .int _ _)] ⟨rfl, rfl, rfl, rfl, rfl, trivial⟩ (fun e13 => ?_)
  refine r_seq (r_seq (r_region' ?_))
  refine l_q (q_move (v := .int _ _) rfl rfl) ?_
  refine l_q (q_neq rfl rfl rfl) ?_
  refine l_nil ?_
  refine r_cond rfl (fun hc14 => ?_) (fun hc14 => ?_)
  ·
   replace hc14 := df (nt hc14)
   have hen := en_none hok hc14
   refine r_seq (r_region' ?_)
   refine l_q (q_move (v := .int _ _) rfl rfl) ?_
   refine l_q (q_eql rfl rfl rfl) ?_
   refine l_q (q_move (v := .bool _) rfl rfl) ?_
   have hk15 : (decide (((enoughR nd pl L).1) = 10)) = true := decide_eq_true (by rw [hen.1])
   refine l_part 46 rfl (fun _ => ?_) (fun hx => absurd (hk15.symm.trans hx) (by decide))
   refine l_q (q_move (v := .int _ _) rfl rfl) ?_
   refine l_q (q_move (v := .int _ _) rfl rfl) ?_
   refine l_q (q_eql rfl rfl rfl) ?_
   refine l_q (q_pick_t (v := .bool _) rfl rfl rfl) ?_
   refine l_q (q_move (v := .bool _) rfl rfl) ?_
   have hk16 : (decide (((bestR nd M10 L).2.2) = ((enoughR nd pl L).1))) = true := decide_eq_true (by rw [hbM1, if_neg (by rw [hen.2 _ hris]; decide), hen.1])
   refine l_part 51 rfl (fun _ => ?_) (fun hx => absurd (hk16.symm.trans hx) (by decide))
   refine l_o (o_call Tryz.call17 rfl (awake_ret _) rfl ?_)
   rintro _ w17 ⟨rfl, hE17⟩
   replace hB := below_ext hB hE17 hsz
   replace hb1 := hb1.ext hE17
   replace he6 := he6.ext hE17
   replace ho8_0 := own_ext ho8_0 hE17
   replace hsz := Nat.le_trans hsz hE17.size
   refine l_q (q_pick_t (v := .bool _) rfl rfl rfl) ?_
   refine l_q (q_assign (v := .bool _) rfl rfl) ?_
   refine l_nil ?_
   refine r_forget [(4, .bool _)] ⟨rfl, trivial⟩ (fun e18 => ?_)
   refine r_ret_ (vs := [.bool _]) rfl Tryz.func9 rfl (.nil _) ⟨rfl, trivial⟩ ?_
   exact ⟨rfl, Ext.of_below hB⟩
  ·
   replace hc14 := dt (nf hc14)
   have hes := en_some hok hc14
   refine r_skip (r_seq (r_region' ?_))
   refine l_q (q_load_agg (n := 3) Tryz.isAgg26 Tryz.sizeOf26 rfl ((hb1.cells' (cs' := [_, _, _]) 0 3 rfl)) rfl rfl) ?_
   refine l_q (q_move (v := .slice _ _ _) rfl rfl) ?_
   refine l_o (o_call Tryz.call47 rfl (onlySome_ret na nc nd pa pc pl ca cc L ea6 ec6 ((enoughR nd pl L).2) _ (hpo.below hB) hbg he6 (by first | omega | exact Nat.le_trans (bits_len _) (by decide) | exact Nat.le_trans (en_len hok) (by decide))) rfl ?_)
   rintro _ w19 ⟨oa19, oc19, M19, rfl, hpo19, hO19, hE19⟩
   replace hB := below_ext hB hE19 hsz
   replace he6 := he6.ext hE19
   replace ho8_0 := own_ext ho8_0 hE19
   replace hsz := Nat.le_trans hsz hE19.size
   have hbg19 := only_big hO19 hbg
   have hbM2 := only_best hO19 hok hes.1
   refine l_o (o_call Tryz.call19 rfl (post10_ret na nc nd oa19 oc19 M19 ca cc L _ hpo19 hbg19) rfl ?_)
   rintro _ w20 ⟨pna20, pnc20, ppa20, ppc20, ppl20, pca20, pcc20, pL20, rfl, hpo20, hpp20, hpL20, hE20⟩
   replace hB := below_ext hB hE20 hsz
   replace he6 := he6.ext hE20
   replace ho8_0 := own_ext ho8_0 hE20
   replace hsz := Nat.le_trans hsz hE20.size
   have hbg20 := post_big hpp20 hpL20 hbg19
   refine l_o (o_call Tryz.call46 rfl ((by have h := best_ret pna20 pnc20 nd ppa20 ppc20 ppl20 pca20 pcc20 pL20 _ hpo20 hbg20.1 hbg20.2.1 hbg20.2.2.1 hbg20.2.2.2.1; rw [best_pn hpp20 hpL20] at h; exact h)) rfl ?_)
   rintro _ w21 ⟨ra21, rc21, R21, rfl, hRo21, hRs21, hRm21, hE21⟩
   replace hB := below_ext hB hE21 hsz
   replace he6 := he6.ext hE21
   replace ho8_0 := own_ext ho8_0 hE21
   replace hsz := Nat.le_trans hsz hE21.size
   have hR21 := Row.of_owns hRo21
   have hRr21 := hRs21.rows
   refine l_q (q_move (v := .tuple _) rfl rfl) ?_
   refine l_q (q_extract (vs := [_, _, _]) (v := .slice _ _ _) rfl rfl rfl) ?_
   refine l_q (q_extract (vs := [_, _, _]) (v := .int _ _) rfl rfl rfl) ?_
   refine l_q (q_extract (vs := [_, _, _]) (v := .int _ _) rfl rfl rfl) ?_
   refine l_q (q_assign (v := .slice _ _ _) rfl rfl) ?_
   refine l_q (q_assign (v := .int _ _) rfl rfl) ?_
   refine l_q (q_assign (v := .int _ _) rfl rfl) ?_
   refine l_nil ?_
   refine r_forget [(5, .slice _ _ _), (7, .slice _ _ _), (10, .int _ _), (13, .int _ _)] ⟨rfl, rfl, rfl, rfl, trivial⟩ (fun e22 => ?_)
   refine r_seq (r_region' ?_)
   refine l_q (q_move (v := .int _ _) rfl rfl) ?_
   refine l_q (q_eql rfl rfl rfl) ?_
   refine l_q (q_move (v := .bool _) rfl rfl) ?_
   have hk23 : (decide (((bestR nd M19 L).2.2) = 0)) = true := decide_eq_true (by rw [hbM2, if_pos hes.2.1])
   refine l_part 65 rfl (fun _ => ?_) (fun hx => absurd (hk23.symm.trans hx) (by decide))
   refine l_q (q_move (v := .int _ _) rfl rfl) ?_
   refine l_q (q_eql rfl rfl rfl) ?_
   refine l_q (q_move (v := .bool _) rfl rfl) ?_
   refine l_part 68 rfl (fun hc24 => ?_) (fun hc24 => ?_)
   ·
    replace hc24 := dt hc24
    have h68 := hc24
    refine l_q (q_skip rfl) ?_
    refine l_q (q_skip rfl) ?_
    refine l_q (q_skip rfl) ?_
    refine l_q (q_skip rfl) ?_
    refine l_q (q_skip rfl) ?_
    refine l_q (q_skip rfl) ?_
    refine l_q (q_skip rfl) ?_
    refine l_q (q_skip rfl) ?_
    refine l_q (q_pick_t (v := .bool _) rfl rfl rfl) ?_
    refine l_q (q_pick_t (v := .bool _) rfl rfl rfl) ?_
    refine l_q (q_move (v := .bool _) rfl rfl) ?_
    refine l_o (o_call Tryz.call17 rfl (awake_ret _) rfl ?_)
    rintro _ w25 ⟨rfl, hE25⟩
    replace hB := below_ext hB hE25 hsz
    replace he6 := he6.ext hE25
    replace ho8_0 := own_ext ho8_0 hE25
    replace hsz := Nat.le_trans hsz hE25.size
    refine l_q (q_pick_t (v := .bool _) rfl rfl rfl) ?_
    refine l_q (q_assign (v := .bool _) rfl rfl) ?_
    refine l_nil ?_
    refine r_forget [(4, .bool _)] ⟨rfl, trivial⟩ (fun e26 => ?_)
    refine r_ret_ (vs := [.bool _]) rfl Tryz.func9 rfl (.nil _) ⟨rfl, trivial⟩ ?_
    exact ⟨rfl, Ext.of_below hB⟩
   ·
    replace hc24 := df hc24
    have h68 := hc24
    rw [hbM1] at h68
    have hcan := ite_can h68
    refine l_q (q_move (v := .int _ _) rfl rfl) ?_
    refine l_q (q_eql rfl rfl rfl) ?_
    refine l_q (q_move (v := .bool _) rfl rfl) ?_
    have hk27 : (decide (((bestR nd M10 L).2.2) = 0)) = true := decide_eq_true (by rw [hbM1, if_pos hcan])
    refine l_part 71 rfl (fun _ => ?_) (fun hx => absurd (hk27.symm.trans hx) (by decide))
    refine l_q (q_move (v := .slice _ _ _) rfl rfl) ?_
    refine l_q (q_move (v := .slice _ _ _) rfl rfl) ?_
    refine l_o (o_call Tryz.call48 rfl (short10_ret _ _ (bitsL m) _ _ ((enoughR nd pl L).2) _ (Row.of_owns ho8_0) (Nat.le_trans (bits_len _) (by decide)) he6 (Nat.le_trans (en_len hok) (by decide))) rfl ?_)
    rintro _ w28 ⟨rfl, hE28⟩
    replace hB := below_ext hB hE28 hsz
    replace hsz := Nat.le_trans hsz hE28.size
    refine l_q (q_not rfl rfl) ?_
    refine l_q (q_pick_t (v := .bool _) rfl rfl rfl) ?_
    refine l_q (q_pick_f (v := .bool _) rfl rfl rfl) ?_
    refine l_q (q_pick_t (v := .bool _) rfl rfl rfl) ?_
    refine l_q (q_move (v := .bool _) rfl rfl) ?_
    have hk29 : (!(ltL (bitsL m) ((enoughR nd pl L).2))) = true := by first | rfl | (rw [hes.2.2 _ hris hcan]; rfl)
    refine l_part 79 rfl (fun _ => ?_) (fun hx => absurd (hk29.symm.trans hx) (by decide))
    refine l_o (o_call Tryz.call17 rfl (awake_ret _) rfl ?_)
    rintro _ w30 ⟨rfl, hE30⟩
    replace hB := below_ext hB hE30 hsz
    replace hsz := Nat.le_trans hsz hE30.size
    refine l_q (q_pick_t (v := .bool _) rfl rfl rfl) ?_
    refine l_q (q_assign (v := .bool _) rfl rfl) ?_
    refine l_nil ?_
    refine r_forget [(4, .bool _)] ⟨rfl, trivial⟩ (fun e31 => ?_)
    refine r_ret_ (vs := [.bool _]) rfl Tryz.func9 rfl (.nil _) ⟨rfl, trivial⟩ ?_
    exact ⟨rfl, Ext.of_below hB⟩
end Go.Proofs.YtgdanglidienmaaGreat
