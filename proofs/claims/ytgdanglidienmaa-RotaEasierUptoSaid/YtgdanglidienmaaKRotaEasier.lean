/- Contracts. -/
import Derived.Test.YtgdanglidienmaaR28
import Derived.Test.YtgdanglidienmaaR24
import Derived.Test.YtgdanglidienmaaR23
set_option linter.unusedVariables false
set_option linter.unusedSimpArgs false
namespace Go.Proofs.Ytgdanglidienmaa
open Go Go.RowKit Go.Gv Go.Fl

theorem el32 : Elem Try.prog 32 (.agg ⟨[.slice none 0 0, vint 0, vint 0]⟩) 3 40 := elem_of (by kernel_rfl) rfl (by decide)
set_option maxRecDepth 20000 in
theorem rotaEasier_ret (na : Option Addr) (nc : Nat) (nd : List Int) (pa : Option Addr) (pc : Nat) (pl : List PV) (ca : Option Addr) (cc : Nat) (L : List SV) (wt wh wn : Int) (w : World) (hpo : PoAt w na nc nd pa pc pl ca cc L) (hbg : PoBig nd pl L) (hwt : 0 ≤ wt ∧ wt ≤ 255) (hwh : 0 ≤ wh ∧ wh ≤ 255) (hwn2 : 0 ≤ wn ∧ wn ≤ 255) : Ret Try.prog 3 [.agg ⟨[.slice na nd.length nc, .slice pa pl.length pc, .slice ca L.length cc]⟩, .int .u8 wt, .int .u8 wh, .int .u8 wn] w (fun v w' => v = .bool true ∧ Ext w w') := by
 obtain ⟨hnl, hpll, hLl, hLs, hPb⟩ := id hbg
 have hB := Below.refl w.heap.size w
 have hsz : w.heap.size ≤ w.heap.size := Nat.le_refl _
 refine ret_of_runs (args := [_, _, _, _]) Try.func3 rfl (Nat.le_of_ble_eq_true rfl) (by kernel_rfl) ?_
 refine r_seq (r_region' ?_)
 refine l_o (o_boxt rfl rfl rfl ?_)
 intro b1 w1 hzl1 hzr1 _ hb1 hty_b1 hE1
 have hbs_b1 : w.heap.size ≤ b1 := Nat.le_trans hsz hzl1
 replace hB := below_ext hB hE1 hsz
 replace hsz := Nat.le_trans hsz hE1.size
 refine l_q (q_assign (v := .bool _) rfl rfl) ?_
 refine l_nil (r_seq (r_seq (r_region' ?_)))
 refine l_q (q_load_agg (n := 3) Try.isAgg26 Try.sizeOf26 rfl ((hb1.cells' (cs' := [_, _, _]) 0 3 rfl)) rfl rfl) ?_
 refine l_o (o_call Try.call6 rfl (ready10_ret na nc nd pa pc pl ca cc L _ (hpo.below hB) hbg) rfl ?_)
 rintro _ w2 ⟨bb2, rfl, hrdy2, hE2⟩
 replace hB := below_ext hB hE2 hsz
 replace hb1 := hb1.ext hE2
 replace hty_b1 := hty_b1.ext hE2
 replace hsz := Nat.le_trans hsz hE2.size
 have hrdy := hrdy2
 refine l_q (q_not rfl rfl) ?_
 refine l_nil ?_
 refine r_cond rfl (fun hc3 => ?_) (fun hc3 => ?_)
 ·
  replace hc3 := nt hc3
  refine r_seq (r_region' ?_)
  refine l_o (o_call Try.call7 rfl (awake_ret _) rfl ?_)
  rintro _ w4 ⟨rfl, hE4⟩
  replace hB := below_ext hB hE4 hsz
  replace hb1 := hb1.ext hE4
  replace hty_b1 := hty_b1.ext hE4
  replace hsz := Nat.le_trans hsz hE4.size
  refine l_q (q_assign (v := .bool _) rfl rfl) ?_
  refine l_nil ?_
  refine r_ret_ (vs := [.bool _]) rfl Try.func3 rfl (.nil _) ⟨rfl, trivial⟩ ?_
  exact ⟨rfl, Ext.of_below hB⟩
 ·
  replace hc3 := nf hc3
  have hok := hrdy hc3
  obtain ⟨⟨hn1, hn5⟩, ⟨hp1, hp4⟩, hL4, hnn, hpp, hLL⟩ := po_ok hok
  refine r_skip (r_seq (r_region' ?_))
  refine l_q (q_load_agg (n := 3) Try.isAgg26 Try.sizeOf26 rfl ((hb1.cells' (cs' := [_, _, _]) 0 3 rfl)) rfl rfl) ?_
  refine l_o (o_alloct Try.zeroValue26 rfl rfl ?_)
  intro b5 w5 hzl5 hzr5 _ hb5 hty_b5 hE5
  have hne_b1_b5 : b1 ≠ b5 := by have := hb1.lt; omega
  have hbs_b5 : w.heap.size ≤ b5 := Nat.le_trans hsz hzl5
  replace hB := below_ext hB hE5 hsz
  replace hb1 := hb1.ext hE5
  replace hty_b1 := hty_b1.ext hE5
  replace hsz := Nat.le_trans hsz hE5.size
  refine l_o (o_storet (vs := [.slice na nd.length nc, .slice pa pl.length pc, .slice ca L.length cc]) (cs' := [.slice na nd.length nc, .slice pa pl.length pc, .slice ca L.length cc]) Try.sizeOf26 rfl rfl rfl rfl hb5 (Nat.le_of_ble_eq_true rfl) rfl rfl ?_)
  intro w6 hz6 hb5 hT6 hG6
  replace hB := below_upd hB hG6 hsz (by omega)
  replace hsz : w.heap.size ≤ w6.heap.size := by rw [hz6]; exact hsz
  replace hb1 := hb1.upd hG6 (by omega)
  replace hty_b1 := hty_b1.upd hG6 (by omega)
  replace hty_b5 := hT6 _ hty_b5
  refine l_nil (r_seq (r_region' ?_))
  refine l_o (o_buildSlice (el := 32) (cs := []) Try.underlying23 el32 (by decide) (by kernel_rfl) rfl (by decide) rfl ?_)
  intro b7 w7 hzl7 hzr7 _ hb7 hE7 ho7
  have hne_b1_b7 : b1 ≠ b7 := by have := hb1.lt; omega
  have hne_b5_b7 : b5 ≠ b7 := by have := hb5.lt; omega
  have hbs_b7 : w.heap.size ≤ b7 := Nat.le_trans hsz hzl7
  replace hB := below_ext hB hE7 hsz
  replace hb1 := hb1.ext hE7
  replace hty_b1 := hty_b1.ext hE7
  replace hb5 := hb5.ext hE7
  replace hty_b5 := hty_b5.ext hE7
  replace hsz := Nat.le_trans hsz hE7.size
  refine l_q (q_fieldAddr (o' := 1) rfl fld26_1 rfl) ?_
  refine l_q (q_load Try.isAgg23 rfl ((hb1.has (o := 1) rfl)) rfl) ?_
  refine l_o (o_append_wide PV.one ([]) (pl) Try.underlying23 el32 rfl rfl ho7 rfl (hpo.rpl.below hB) (by (try simp only [List.length_append, List.length_cons, List.length_nil, List.length_take, List.length_drop, List.length_replicate]); omega) (by omega) rfl ?_)
  intro a9 c9 w9 hz9 ho9 hG9
  replace hB := below_own hB hG9 ho7 (by omega) hsz
  replace hsz := Nat.le_trans hsz hG9.size
  replace hb1 := hb1.step hG9 (own_ty_ne ho7 hty_b1 (by decide))
  replace hb5 := hb5.step hG9 (own_ty_ne ho7 hty_b5 (by decide))
  replace hty_b1 := TyAt.own hty_b1 ho7 hG9 (by decide)
  replace hty_b5 := TyAt.own hty_b5 ho7 hG9 (by decide)
  refine l_q (q_fieldAddr (o' := 1) rfl fld26_1 rfl) ?_
  refine l_o (o_storet (vs := [.slice a9 (([] ++ pl).length) c9]) (cs' := [.slice na nd.length nc, .slice a9 (([] ++ pl).length) c9, .slice ca L.length cc]) Try.sizeOf23 rfl rfl rfl rfl hb5 (Nat.le_of_ble_eq_true rfl) rfl rfl ?_)
  intro w10 hz10 hb5 hT10 hG10
  replace hB := below_upd hB hG10 hsz (by omega)
  replace hsz : w.heap.size ≤ w10.heap.size := by rw [hz10]; exact hsz
  replace hb1 := hb1.upd hG10 (by omega)
  replace hty_b1 := hty_b1.upd hG10 (by omega)
  replace ho9 := own_ty_upd ho9 hty_b5 hG10 (by decide)
  replace hty_b5 := hT10 _ hty_b5
  refine l_nil ?_
  refine r_forget [(1, .int _ _), (2, .int _ _), (3, .int _ _), (4, .pointer _), (9, .pointer _)] ⟨rfl, rfl, rfl, rfl, rfl, trivial⟩ (fun e11 => ?_)
  refine r_seq ?_
  have hop : w10.ownsRow w.heap.size 32 3 (.slice a9 pl.length c9) pl.length (pl.flatMap PV.enc) := by have h := own_mono ho9 (show w.heap.size ≤ _ by omega); simp only [List.nil_append] at h; exact h
  replace hb5 : Blk w10 b5 [.slice na nd.length nc, .slice a9 pl.length c9, .slice ca L.length cc] := hb5
  refine r_region' ?_
  refine l_q (q_move (v := .int _ _) rfl rfl) ?_
  refine l_q (q_toInt Try.underlying5 Try.underlying3 rfl (by omega) rfl) ?_
  refine l_q (q_fieldAddr (o' := 1) rfl fld26_1 rfl) ?_
  refine l_q (q_load Try.isAgg23 rfl ((hb1.has (o := 1) rfl)) rfl) ?_
  refine l_q (q_len rfl Try.underlying23 rfl rfl) ?_
  refine l_q (q_rem rfl rfl (by omega) rfl) ?_
  refine l_q (q_assign (v := .int _ _) rfl rfl) ?_
  refine l_nil (r_seq ?_)
  have hkw1 := Int.emod_nonneg wh (show (pl.length : Int) ≠ 0 by omega)
  have hkw2 := Int.emod_lt_of_pos wh (show (0 : Int) < pl.length by omega)
  have hww1 := Int.emod_nonneg wn (show (nd.length : Int) ≠ 0 by omega)
  have hww2 := Int.emod_lt_of_pos wn (show (0 : Int) < nd.length by omega)
  have hkk : (wh % (pl.length : Int)).toNat < pl.length := by omega
  obtain ⟨hab, ⟨hr0, hr5⟩, hm0, hm5⟩ := hpp _ (getD_lt (d := pv0) hkk)
  refine r_region' ?_
  refine l_q (q_fieldAddr (o' := 1) rfl fld26_1 rfl) ?_
  refine l_q (q_load Try.isAgg23 rfl ((hb5.has (o := 1) rfl)) rfl) ?_
  refine l_q (q_move (v := .int _ _) rfl rfl) ?_
  obtain ⟨b12, o12, ha12, hh12⟩ := (Row.of_owns hop).at (by decide) (wh % (pl.length : Int)).toNat (by omega)
  refine l_q (q_indexAddr Try.underlying23 Try.sizeOf32 rfl ha12 rfl (by omega) rfl) ?_
  refine l_q (q_assign (v := .pointer _) rfl rfl) ?_
  refine l_nil ?_
  refine r_forget [(1, .int _ _), (3, .int _ _), (4, .pointer _), (9, .pointer _), (10, .int _ _), (11, .pointer _)] ⟨rfl, rfl, rfl, rfl, rfl, rfl, trivial⟩ (fun e13 => ?_)
  refine r_seq (r_seq ?_)
  have hcz := (cells_cast (wide_at PV.len pv0 _ _ (by omega)) hh12)
  refine r_region' ?_
  refine l_q (q_move (v := .int _ _) rfl rfl) ?_
  refine l_q (q_rem rfl rfl (by omega) rfl) ?_
  refine l_nil (r_block (r_seq (r_region' ?_)))
  refine l_q (q_eql rfl rfl rfl) ?_
  refine l_q (q_assign (v := .bool _) rfl rfl) ?_
  refine l_nil ?_
  refine r_cond rfl (fun hc14 => ?_) (fun hc14 => ?_)
  ·
   replace hc14 := dt hc14
   refine r_region' ?_
   refine l_q (q_move (v := .pointer _) rfl rfl) ?_
   refine l_q (q_move (v := .pointer _) rfl rfl) ?_
   refine l_q (q_nilCheck rfl rfl) ?_
   refine l_q (q_fieldAddr (o' := 1) rfl fld32_1 rfl) ?_
   refine l_q (q_load Try.isAgg3 rfl ((hcz 1 _ rfl)) rfl) ?_
   refine l_q (q_sub rfl rfl (by omega) rfl) ?_
   refine l_q (q_max rfl rfl rfl) ?_
   refine l_q (q_nilCheck rfl rfl) ?_
   refine l_q (q_fieldAddr (o' := 1) rfl fld32_1 rfl) ?_
   refine l_o (o_store_pv pl ((wh % (pl.length : Int)).toNat) 1 (⟨(pl.getD (wh % (pl.length : Int)).toNat pv0).a, (pl.getD (wh % (pl.length : Int)).toNat pv0).c, (pl.getD (wh % (pl.length : Int)).toNat pv0).ab, max 0 ((((pl).getD (wh % (pl.length : Int)).toNat pv0).r) - 1), (pl.getD (wh % (pl.length : Int)).toNat pv0).m⟩ : PV) (vint (max 0 ((((pl).getD (wh % (pl.length : Int)).toNat pv0).r) - 1))) Try.sizeOf3 rfl ha12 rfl rfl rfl rfl (by decide) hop (by omega) rfl ?_)
   intro w15 hz15 ho15 hG15
   replace hB := below_own hB hG15 hop (by omega) hsz
   replace hsz := Nat.le_trans hsz hG15.size
   replace hb1 := hb1.step hG15 (own_ty_ne hop hty_b1 (by decide))
   replace hb5 := hb5.step hG15 (own_ty_ne hop hty_b5 (by decide))
   replace hty_b1 := TyAt.own hty_b1 hop hG15 (by decide)
   replace hty_b5 := TyAt.own hty_b5 hop hG15 (by decide)
   replace hop := ho15
   refine l_nil ?_
   refine r_forget [(4, .pointer _), (9, .pointer _)] ⟨rfl, rfl, trivial⟩ (fun e16 => ?_)
   refine r_inBlock (r_seq ?_)
   have heas : Eases (pl.getD (wh % (pl.length : Int)).toNat pv0) (⟨(pl.getD (wh % (pl.length : Int)).toNat pv0).a, (pl.getD (wh % (pl.length : Int)).toNat pv0).c, (pl.getD (wh % (pl.length : Int)).toNat pv0).ab, max 0 ((((pl).getD (wh % (pl.length : Int)).toNat pv0).r) - 1), (pl.getD (wh % (pl.length : Int)).toNat pv0).m⟩ : PV) := ⟨fun _ h => h, by dsimp only; omega, by dsimp only; omega⟩
   have hrp9 : RowsP w15 (pl.set (wh % (pl.length : Int)).toNat (⟨(pl.getD (wh % (pl.length : Int)).toNat pv0).a, (pl.getD (wh % (pl.length : Int)).toNat pv0).c, (pl.getD (wh % (pl.length : Int)).toNat pv0).ab, max 0 ((((pl).getD (wh % (pl.length : Int)).toNat pv0).r) - 1), (pl.getD (wh % (pl.length : Int)).toNat pv0).m⟩ : PV)) := rowsP_set (hpo.rplr.below hB) (show Row _ (pl.getD (wh % (pl.length : Int)).toNat pv0).a (pl.getD (wh % (pl.length : Int)).toNat pv0).ab.length (pl.getD (wh % (pl.length : Int)).toNat pv0).c 1 ((pl.getD (wh % (pl.length : Int)).toNat pv0).ab.map Value.bool) from (hpo.rplr.below hB) _ (getD_lt (d := pv0) hkk))
   have hbgX : PoBig nd (pl.set (wh % (pl.length : Int)).toNat (⟨(pl.getD (wh % (pl.length : Int)).toNat pv0).a, (pl.getD (wh % (pl.length : Int)).toNat pv0).c, (pl.getD (wh % (pl.length : Int)).toNat pv0).ab, max 0 ((((pl).getD (wh % (pl.length : Int)).toNat pv0).r) - 1), (pl.getD (wh % (pl.length : Int)).toNat pv0).m⟩ : PV)) L := big_pset hbg (by dsimp only; omega)
   have hard9 := fun h => hard_same hok heas h
   obtain ⟨M9, hM9⟩ : ∃ M9 : List PV, pl.set (wh % (pl.length : Int)).toNat (⟨(pl.getD (wh % (pl.length : Int)).toNat pv0).a, (pl.getD (wh % (pl.length : Int)).toNat pv0).c, (pl.getD (wh % (pl.length : Int)).toNat pv0).ab, max 0 ((((pl).getD (wh % (pl.length : Int)).toNat pv0).r) - 1), (pl.getD (wh % (pl.length : Int)).toNat pv0).m⟩ : PV) = M9 := ⟨_, rfl⟩
   have hlM9 : pl.length = M9.length := by rw [← hM9, List.length_set]
   rw [hM9] at hrp9 hbgX hard9
   replace hop : w15.ownsRow w.heap.size 32 3 (.slice a9 M9.length c9) M9.length (M9.flatMap PV.enc) := by rw [← hlM9, ← hM9]; exact hop
   replace hb5 : Blk w15 b5 [.slice na nd.length nc, .slice a9 M9.length c9, .slice ca L.length cc] := by rw [← hlM9]; exact hb5
   refine r_region' ?_
   refine l_q (q_load_agg (n := 3) Try.isAgg26 Try.sizeOf26 rfl ((hb5.cells' (cs' := [_, _, _]) 0 3 rfl)) rfl rfl) ?_
   refine l_o (o_call Try.call6 rfl (ready10_ret na nc nd a9 c9 M9 ca cc L _ ⟨(hpo.rnd.below hB), (Row.of_owns hop), hrp9, (hpo.rC.below hB), (hpo.rCr.below hB)⟩ hbgX) rfl ?_)
   rintro _ w17 ⟨bb17, rfl, hrdy17, hE17⟩
   replace hB := below_ext hB hE17 hsz
   replace hb1 := hb1.ext hE17
   replace hty_b1 := hty_b1.ext hE17
   replace hb5 := hb5.ext hE17
   replace hty_b5 := hty_b5.ext hE17
   replace hop := own_ext hop hE17
   replace hrp9 := hrp9.ext hE17
   replace hsz := Nat.le_trans hsz hE17.size
   have hrdy := hrdy17
   refine l_q (q_not rfl rfl) ?_
   refine l_q (q_move (v := .bool _) rfl rfl) ?_
   refine l_part 120 rfl (fun hc18 => ?_) (fun hc18 => ?_)
   ·
    replace hc18 := nt hc18
    refine l_q (q_skip rfl) ?_
    refine l_q (q_skip rfl) ?_
    refine l_q (q_skip rfl) ?_
    refine l_q (q_pick_t (v := .bool _) rfl rfl rfl) ?_
    refine l_q (q_move (v := .bool _) rfl rfl) ?_
    refine l_o (o_call Try.call7 rfl (awake_ret _) rfl ?_)
    rintro _ w19 ⟨rfl, hE19⟩
    replace hB := below_ext hB hE19 hsz
    replace hb1 := hb1.ext hE19
    replace hty_b1 := hty_b1.ext hE19
    replace hb5 := hb5.ext hE19
    replace hty_b5 := hty_b5.ext hE19
    replace hop := own_ext hop hE19
    replace hrp9 := hrp9.ext hE19
    replace hsz := Nat.le_trans hsz hE19.size
    refine l_q (q_pick_t (v := .bool _) rfl rfl rfl) ?_
    refine l_q (q_assign (v := .bool _) rfl rfl) ?_
    refine l_nil ?_
    refine r_forget [(8, .bool _)] ⟨rfl, trivial⟩ (fun e20 => ?_)
    refine r_ret_ (vs := [.bool _]) rfl Try.func3 rfl (.nil _) ⟨rfl, trivial⟩ ?_
    exact ⟨rfl, Ext.of_below hB⟩
   ·
    replace hc18 := nf hc18
    have hokx := hrdy hc18
    refine l_q (q_load_agg (n := 3) Try.isAgg26 Try.sizeOf26 rfl ((hb1.cells' (cs' := [_, _, _]) 0 3 rfl)) rfl rfl) ?_
    refine l_q (q_load_agg (n := 3) Try.isAgg26 Try.sizeOf26 rfl ((hb5.cells' (cs' := [_, _, _]) 0 3 rfl)) rfl rfl) ?_
    refine l_o (o_call Try.call9 rfl (harder10_ret na nc nd pa pc pl ca cc L na nc nd a9 c9 M9 ca cc L _ (hpo.below hB) hbg ⟨(hpo.rnd.below hB), (Row.of_owns hop), hrp9, (hpo.rC.below hB), (hpo.rCr.below hB)⟩ hbgX hokx hok (by omega) (hard9 hokx)) rfl ?_)
    rintro _ w21 ⟨rfl, hE21⟩
    replace hB := below_ext hB hE21 hsz
    replace hb1 := hb1.ext hE21
    replace hty_b1 := hty_b1.ext hE21
    replace hb5 := hb5.ext hE21
    replace hty_b5 := hty_b5.ext hE21
    replace hop := own_ext hop hE21
    replace hrp9 := hrp9.ext hE21
    replace hsz := Nat.le_trans hsz hE21.size
    refine l_q (q_pick_f (v := .bool _) rfl rfl rfl) ?_
    refine l_q (q_move (v := .bool _) rfl rfl) ?_
    refine l_o (o_call Try.call7 rfl (awake_ret _) rfl ?_)
    rintro _ w22 ⟨rfl, hE22⟩
    replace hB := below_ext hB hE22 hsz
    replace hb1 := hb1.ext hE22
    replace hty_b1 := hty_b1.ext hE22
    replace hb5 := hb5.ext hE22
    replace hty_b5 := hty_b5.ext hE22
    replace hop := own_ext hop hE22
    replace hrp9 := hrp9.ext hE22
    replace hsz := Nat.le_trans hsz hE22.size
    refine l_q (q_pick_t (v := .bool _) rfl rfl rfl) ?_
    refine l_q (q_assign (v := .bool _) rfl rfl) ?_
    refine l_nil ?_
    refine r_forget [(8, .bool _)] ⟨rfl, trivial⟩ (fun e23 => ?_)
    refine r_ret_ (vs := [.bool _]) rfl Try.func3 rfl (.nil _) ⟨rfl, trivial⟩ ?_
    exact ⟨rfl, Ext.of_below hB⟩
  ·
   replace hc14 := df hc14
   refine r_seq (r_region' ?_)
   refine l_q (q_eql rfl rfl rfl) ?_
   refine l_q (q_assign (v := .bool _) rfl rfl) ?_
   refine l_nil ?_
   refine r_cond rfl (fun hc24 => ?_) (fun hc24 => ?_)
   ·
    replace hc24 := dt hc24
    refine r_region' ?_
    refine l_q (q_move (v := .pointer _) rfl rfl) ?_
    refine l_q (q_move (v := .pointer _) rfl rfl) ?_
    refine l_q (q_nilCheck rfl rfl) ?_
    refine l_q (q_fieldAddr (o' := 2) rfl fld32_2 rfl) ?_
    refine l_q (q_load Try.isAgg3 rfl ((hcz 2 _ rfl)) rfl) ?_
    refine l_q (q_add rfl rfl (by omega) rfl) ?_
    refine l_q (q_min rfl rfl rfl) ?_
    refine l_q (q_nilCheck rfl rfl) ?_
    refine l_q (q_fieldAddr (o' := 2) rfl fld32_2 rfl) ?_
    refine l_o (o_store_pv pl ((wh % (pl.length : Int)).toNat) 2 (⟨(pl.getD (wh % (pl.length : Int)).toNat pv0).a, (pl.getD (wh % (pl.length : Int)).toNat pv0).c, (pl.getD (wh % (pl.length : Int)).toNat pv0).ab, (pl.getD (wh % (pl.length : Int)).toNat pv0).r, min 5 ((((pl).getD (wh % (pl.length : Int)).toNat pv0).m) + 1)⟩ : PV) (vint (min 5 ((((pl).getD (wh % (pl.length : Int)).toNat pv0).m) + 1))) Try.sizeOf3 rfl ha12 rfl rfl rfl rfl (by decide) hop (by omega) rfl ?_)
    intro w25 hz25 ho25 hG25
    replace hB := below_own hB hG25 hop (by omega) hsz
    replace hsz := Nat.le_trans hsz hG25.size
    replace hb1 := hb1.step hG25 (own_ty_ne hop hty_b1 (by decide))
    replace hb5 := hb5.step hG25 (own_ty_ne hop hty_b5 (by decide))
    replace hty_b1 := TyAt.own hty_b1 hop hG25 (by decide)
    replace hty_b5 := TyAt.own hty_b5 hop hG25 (by decide)
    replace hop := ho25
    refine l_nil ?_
    refine r_forget [(4, .pointer _), (9, .pointer _)] ⟨rfl, rfl, trivial⟩ (fun e26 => ?_)
    refine r_inBlock (r_seq ?_)
    have heas : Eases (pl.getD (wh % (pl.length : Int)).toNat pv0) (⟨(pl.getD (wh % (pl.length : Int)).toNat pv0).a, (pl.getD (wh % (pl.length : Int)).toNat pv0).c, (pl.getD (wh % (pl.length : Int)).toNat pv0).ab, (pl.getD (wh % (pl.length : Int)).toNat pv0).r, min 5 ((((pl).getD (wh % (pl.length : Int)).toNat pv0).m) + 1)⟩ : PV) := ⟨fun _ h => h, by dsimp only; omega, by dsimp only; omega⟩
    have hrp9 : RowsP w25 (pl.set (wh % (pl.length : Int)).toNat (⟨(pl.getD (wh % (pl.length : Int)).toNat pv0).a, (pl.getD (wh % (pl.length : Int)).toNat pv0).c, (pl.getD (wh % (pl.length : Int)).toNat pv0).ab, (pl.getD (wh % (pl.length : Int)).toNat pv0).r, min 5 ((((pl).getD (wh % (pl.length : Int)).toNat pv0).m) + 1)⟩ : PV)) := rowsP_set (hpo.rplr.below hB) (show Row _ (pl.getD (wh % (pl.length : Int)).toNat pv0).a (pl.getD (wh % (pl.length : Int)).toNat pv0).ab.length (pl.getD (wh % (pl.length : Int)).toNat pv0).c 1 ((pl.getD (wh % (pl.length : Int)).toNat pv0).ab.map Value.bool) from (hpo.rplr.below hB) _ (getD_lt (d := pv0) hkk))
    have hbgX : PoBig nd (pl.set (wh % (pl.length : Int)).toNat (⟨(pl.getD (wh % (pl.length : Int)).toNat pv0).a, (pl.getD (wh % (pl.length : Int)).toNat pv0).c, (pl.getD (wh % (pl.length : Int)).toNat pv0).ab, (pl.getD (wh % (pl.length : Int)).toNat pv0).r, min 5 ((((pl).getD (wh % (pl.length : Int)).toNat pv0).m) + 1)⟩ : PV)) L := big_pset hbg (by dsimp only; omega)
    have hard9 := fun h => hard_same hok heas h
    obtain ⟨M9, hM9⟩ : ∃ M9 : List PV, pl.set (wh % (pl.length : Int)).toNat (⟨(pl.getD (wh % (pl.length : Int)).toNat pv0).a, (pl.getD (wh % (pl.length : Int)).toNat pv0).c, (pl.getD (wh % (pl.length : Int)).toNat pv0).ab, (pl.getD (wh % (pl.length : Int)).toNat pv0).r, min 5 ((((pl).getD (wh % (pl.length : Int)).toNat pv0).m) + 1)⟩ : PV) = M9 := ⟨_, rfl⟩
    have hlM9 : pl.length = M9.length := by rw [← hM9, List.length_set]
    rw [hM9] at hrp9 hbgX hard9
    replace hop : w25.ownsRow w.heap.size 32 3 (.slice a9 M9.length c9) M9.length (M9.flatMap PV.enc) := by rw [← hlM9, ← hM9]; exact hop
    replace hb5 : Blk w25 b5 [.slice na nd.length nc, .slice a9 M9.length c9, .slice ca L.length cc] := by rw [← hlM9]; exact hb5
    refine r_region' ?_
    refine l_q (q_load_agg (n := 3) Try.isAgg26 Try.sizeOf26 rfl ((hb5.cells' (cs' := [_, _, _]) 0 3 rfl)) rfl rfl) ?_
    refine l_o (o_call Try.call6 rfl (ready10_ret na nc nd a9 c9 M9 ca cc L _ ⟨(hpo.rnd.below hB), (Row.of_owns hop), hrp9, (hpo.rC.below hB), (hpo.rCr.below hB)⟩ hbgX) rfl ?_)
    rintro _ w27 ⟨bb27, rfl, hrdy27, hE27⟩
    replace hB := below_ext hB hE27 hsz
    replace hb1 := hb1.ext hE27
    replace hty_b1 := hty_b1.ext hE27
    replace hb5 := hb5.ext hE27
    replace hty_b5 := hty_b5.ext hE27
    replace hop := own_ext hop hE27
    replace hrp9 := hrp9.ext hE27
    replace hsz := Nat.le_trans hsz hE27.size
    have hrdy := hrdy27
    refine l_q (q_not rfl rfl) ?_
    refine l_q (q_move (v := .bool _) rfl rfl) ?_
    refine l_part 120 rfl (fun hc28 => ?_) (fun hc28 => ?_)
    ·
     replace hc28 := nt hc28
     refine l_q (q_skip rfl) ?_
     refine l_q (q_skip rfl) ?_
     refine l_q (q_skip rfl) ?_
     refine l_q (q_pick_t (v := .bool _) rfl rfl rfl) ?_
     refine l_q (q_move (v := .bool _) rfl rfl) ?_
     refine l_o (o_call Try.call7 rfl (awake_ret _) rfl ?_)
     rintro _ w29 ⟨rfl, hE29⟩
     replace hB := below_ext hB hE29 hsz
     replace hb1 := hb1.ext hE29
     replace hty_b1 := hty_b1.ext hE29
     replace hb5 := hb5.ext hE29
     replace hty_b5 := hty_b5.ext hE29
     replace hop := own_ext hop hE29
     replace hrp9 := hrp9.ext hE29
     replace hsz := Nat.le_trans hsz hE29.size
     refine l_q (q_pick_t (v := .bool _) rfl rfl rfl) ?_
     refine l_q (q_assign (v := .bool _) rfl rfl) ?_
     refine l_nil ?_
     refine r_forget [(8, .bool _)] ⟨rfl, trivial⟩ (fun e30 => ?_)
     refine r_ret_ (vs := [.bool _]) rfl Try.func3 rfl (.nil _) ⟨rfl, trivial⟩ ?_
     exact ⟨rfl, Ext.of_below hB⟩
    ·
     replace hc28 := nf hc28
     have hokx := hrdy hc28
     refine l_q (q_load_agg (n := 3) Try.isAgg26 Try.sizeOf26 rfl ((hb1.cells' (cs' := [_, _, _]) 0 3 rfl)) rfl rfl) ?_
     refine l_q (q_load_agg (n := 3) Try.isAgg26 Try.sizeOf26 rfl ((hb5.cells' (cs' := [_, _, _]) 0 3 rfl)) rfl rfl) ?_
     refine l_o (o_call Try.call9 rfl (harder10_ret na nc nd pa pc pl ca cc L na nc nd a9 c9 M9 ca cc L _ (hpo.below hB) hbg ⟨(hpo.rnd.below hB), (Row.of_owns hop), hrp9, (hpo.rC.below hB), (hpo.rCr.below hB)⟩ hbgX hokx hok (by omega) (hard9 hokx)) rfl ?_)
     rintro _ w31 ⟨rfl, hE31⟩
     replace hB := below_ext hB hE31 hsz
     replace hb1 := hb1.ext hE31
     replace hty_b1 := hty_b1.ext hE31
     replace hb5 := hb5.ext hE31
     replace hty_b5 := hty_b5.ext hE31
     replace hop := own_ext hop hE31
     replace hrp9 := hrp9.ext hE31
     replace hsz := Nat.le_trans hsz hE31.size
     refine l_q (q_pick_f (v := .bool _) rfl rfl rfl) ?_
     refine l_q (q_move (v := .bool _) rfl rfl) ?_
     refine l_o (o_call Try.call7 rfl (awake_ret _) rfl ?_)
     rintro _ w32 ⟨rfl, hE32⟩
     replace hB := below_ext hB hE32 hsz
     replace hb1 := hb1.ext hE32
     replace hty_b1 := hty_b1.ext hE32
     replace hb5 := hb5.ext hE32
     replace hty_b5 := hty_b5.ext hE32
     replace hop := own_ext hop hE32
     replace hrp9 := hrp9.ext hE32
     replace hsz := Nat.le_trans hsz hE32.size
     refine l_q (q_pick_t (v := .bool _) rfl rfl rfl) ?_
     refine l_q (q_assign (v := .bool _) rfl rfl) ?_
     refine l_nil ?_
     refine r_forget [(8, .bool _)] ⟨rfl, trivial⟩ (fun e33 => ?_)
     refine r_ret_ (vs := [.bool _]) rfl Try.func3 rfl (.nil _) ⟨rfl, trivial⟩ ?_
     exact ⟨rfl, Ext.of_below hB⟩
   ·
    replace hc24 := df hc24
    refine r_seq (r_region' ?_)
    refine l_q (q_eql rfl rfl rfl) ?_
    refine l_q (q_assign (v := .bool _) rfl rfl) ?_
    refine l_nil ?_
    refine r_cond rfl (fun hc34 => ?_) (fun hc34 => ?_)
    ·
     replace hc34 := dt hc34
     refine r_seq (r_region' ?_)
     refine l_q (q_move (v := .pointer _) rfl rfl) ?_
     refine l_o (o_buildSlice (el := 4) (cs := []) Try.underlying30 el4 (by decide) (by kernel_rfl) rfl (by decide) rfl ?_)
     intro b35 w35 hzl35 hzr35 _ hb35 hE35 ho35
     have hne_b1_b35 : b1 ≠ b35 := by have := hb1.lt; omega
     have hne_b5_b35 : b5 ≠ b35 := by have := hb5.lt; omega
     have hbs_b35 : w.heap.size ≤ b35 := Nat.le_trans hsz hzl35
     replace hB := below_ext hB hE35 hsz
     replace hb1 := hb1.ext hE35
     replace hty_b1 := hty_b1.ext hE35
     replace hb5 := hb5.ext hE35
     replace hty_b5 := hty_b5.ext hE35
     replace hop := own_ext hop hE35
     replace hcz := hcz.ext hE35
     replace hsz := Nat.le_trans hsz hE35.size
     refine l_q (q_move (v := .pointer _) rfl rfl) ?_
     refine l_q (q_nilCheck rfl rfl) ?_
     refine l_q (q_fieldAddr (o' := 0) rfl fld32_0 rfl) ?_
     refine l_q (q_load Try.isAgg30 rfl ((hcz 0 _ rfl)) rfl) ?_
     refine l_o (o_append_map (f := Value.bool) ([]) (((pl).getD (wh % (pl.length : Int)).toNat pv0).ab) Try.underlying30 el4 rfl rfl ho35 rfl (RowsP.get ((hpo.rplr.below hB)) (i := (wh % (pl.length : Int)).toNat) (by omega)) (fun _ => rfl) (by (try simp only [List.length_append, List.length_cons, List.length_nil, List.length_take, List.length_drop, List.length_replicate]); omega) (by omega) rfl ?_)
     intro a36 c36 w36 hz36 ho36 hG36
     replace hB := below_own hB hG36 ho35 (by omega) hsz
     replace hsz := Nat.le_trans hsz hG36.size
     replace hb1 := hb1.step hG36 (own_ty_ne ho35 hty_b1 (by decide))
     replace hb5 := hb5.step hG36 (own_ty_ne ho35 hty_b5 (by decide))
     replace hop := own_kept hop ho35 (by decide) hG36
     replace hty_b1 := TyAt.own hty_b1 ho35 hG36 (by decide)
     replace hty_b5 := TyAt.own hty_b5 ho35 hG36 (by decide)
     refine l_q (q_nilCheck rfl rfl) ?_
     refine l_q (q_fieldAddr (o' := 0) rfl fld32_0 rfl) ?_
     refine l_o (o_store_pv pl ((wh % (pl.length : Int)).toNat) 0 (⟨a36, c36, [] ++ (((pl).getD (wh % (pl.length : Int)).toNat pv0).ab), (pl.getD (wh % (pl.length : Int)).toNat pv0).r, (pl.getD (wh % (pl.length : Int)).toNat pv0).m⟩ : PV) (.slice a36 (([] ++ (((pl).getD (wh % (pl.length : Int)).toNat pv0).ab)).length) c36) Try.sizeOf30 rfl ha12 rfl rfl rfl rfl (by decide) hop (by omega) rfl ?_)
     intro w37 hz37 ho37 hG37
     replace hB := below_own hB hG37 hop (by omega) hsz
     replace hsz := Nat.le_trans hsz hG37.size
     replace hb1 := hb1.step hG37 (own_ty_ne hop hty_b1 (by decide))
     replace hb5 := hb5.step hG37 (own_ty_ne hop hty_b5 (by decide))
     replace ho36 := own_kept ho36 hop (by decide) hG37
     replace hty_b1 := TyAt.own hty_b1 hop hG37 (by decide)
     replace hty_b5 := TyAt.own hty_b5 hop hG37 (by decide)
     replace hop := ho37
     refine l_nil ?_
     refine r_forget [(3, .int _ _), (4, .pointer _), (9, .pointer _), (11, .pointer _)] ⟨rfl, rfl, rfl, rfl, trivial⟩ (fun e38 => ?_)
     have hcy : Cells w37 b12 (o12 + (wh % (pl.length : Int)).toNat * 3) (⟨a36, c36, [] ++ (((pl).getD (wh % (pl.length : Int)).toNat pv0).ab), (pl.getD (wh % (pl.length : Int)).toNat pv0).r, (pl.getD (wh % (pl.length : Int)).toNat pv0).m⟩ : PV).enc := by have h := cells_pv (Row.of_owns hop) ha12 hkk (List.length_set); rw [gps hkk] at h; exact h
     have habl : List.length ([] ++ (((pl).getD (wh % (pl.length : Int)).toNat pv0).ab)) = nd.length := hab
     refine r_draw ext_refl' ext_trans' [0, 1, 2, 3, 4, 5, 6, 7, 8, 9, 10, 11] [11, 1011] 40 (by kernel_rfl) (by kernel_rfl) ?_
     intro w39 _ hE39
     replace hB := below_ext hB hE39 hsz
     replace hb1 := hb1.ext hE39
     replace hty_b1 := hty_b1.ext hE39
     replace hb5 := hb5.ext hE39
     replace hty_b5 := hty_b5.ext hE39
     replace ho36 := own_ext ho36 hE39
     replace hop := own_ext hop hE39
     replace hcy := hcy.ext hE39
     replace hsz := Nat.le_trans hsz hE39.size
     refine m_q rfl rfl (fun w' hC' => q_move (v := .pointer _) rfl rfl) ?_
     refine m_q rfl rfl (fun w' hC' => q_nilCheck rfl rfl) ?_
     refine m_q rfl rfl (fun w' hC' => q_fieldAddr (o' := 0) rfl fld32_0 rfl) ?_
     refine m_q rfl rfl (fun w' hC' => q_load Try.isAgg30 rfl (((hcy 0 _ rfl).ext hC')) rfl) ?_
     refine m_q rfl rfl (fun w' hC' => q_move (v := .int _ _) rfl rfl) ?_
     refine m_q rfl rfl (fun w' hC' => q_toInt Try.underlying5 Try.underlying3 rfl (by omega) rfl) ?_
     refine m_q rfl rfl (fun w' hC' => q_fieldAddr (o' := 0) rfl fld26_0 rfl) ?_
     refine m_q rfl rfl (fun w' hC' => q_load Try.isAgg22 rfl (((hb1.has (o := 0) rfl).ext hC')) rfl) ?_
     refine m_q rfl rfl (fun w' hC' => q_len rfl Try.underlying22 rfl rfl) ?_
     refine m_q rfl rfl (fun w' hC' => q_rem rfl rfl (by omega) rfl) ?_
     obtain ⟨b40, o40, ha40, hh40⟩ := (Row.of_owns ho36).at1 (wn % (nd.length : Int)).toNat (([] ++ (((pl).getD (wh % (pl.length : Int)).toNat pv0).ab)).getD (wn % (nd.length : Int)).toNat false) (getD_some (by first | omega | (dsimp only; omega)))
     refine m_q rfl rfl (fun w' hC' => q_indexAddr1 Try.underlying30 Try.sizeOf4 rfl ha40 rfl (by first | omega | (dsimp only; omega)) rfl) ?_
     refine m_last rfl rfl rfl (o_store_own (f := Value.bool) ([] ++ (((pl).getD (wh % (pl.length : Int)).toNat pv0).ab)) ((wn % (nd.length : Int)).toNat) true Try.sizeOf4 rfl ha40 rfl rfl (fun _ => rfl) ho36 (by first | omega | (dsimp only; omega)) rfl ?_)
     intro w41 hz41 ho41 hG41
     replace hB := below_own hB hG41 ho36 (by omega) hsz
     replace hsz := Nat.le_trans hsz hG41.size
     replace hb1 := hb1.step hG41 (own_ty_ne ho36 hty_b1 (by decide))
     replace hb5 := hb5.step hG41 (own_ty_ne ho36 hty_b5 (by decide))
     replace hop := own_kept hop ho36 (by decide) hG41
     replace hty_b1 := TyAt.own hty_b1 ho36 hG41 (by decide)
     replace hty_b5 := TyAt.own hty_b5 ho36 hG41 (by decide)
     replace ho36 := ho41
     have hls41 : (([] ++ (((pl).getD (wh % (pl.length : Int)).toNat pv0).ab)).set ((wn % (nd.length : Int)).toNat) true).length = ([] ++ (((pl).getD (wh % (pl.length : Int)).toNat pv0).ab)).length := List.length_set
     refine m_nil ?_
     refine r_forget [(4, .pointer _), (9, .pointer _)] ⟨rfl, rfl, trivial⟩ (fun e42 => ?_)
     refine r_inBlock (r_seq ?_)
     have heas : Eases (pl.getD (wh % (pl.length : Int)).toNat pv0) (⟨a36, c36, ([] ++ (((pl).getD (wh % (pl.length : Int)).toNat pv0).ab)).set ((wn % (nd.length : Int)).toNat) true, (pl.getD (wh % (pl.length : Int)).toNat pv0).r, (pl.getD (wh % (pl.length : Int)).toNat pv0).m⟩ : PV) := ease_able
     have hrow9 : Row w41 a36 (List.length (([] ++ (((pl).getD (wh % (pl.length : Int)).toNat pv0).ab)).set ((wn % (nd.length : Int)).toNat) true)) c36 1 (List.map Value.bool (([] ++ (((pl).getD (wh % (pl.length : Int)).toNat pv0).ab)).set ((wn % (nd.length : Int)).toNat) true)) := by rw [List.length_set]; exact Row.of_owns ho36
     have hrp9 : RowsP w41 (pl.set (wh % (pl.length : Int)).toNat (⟨a36, c36, ([] ++ (((pl).getD (wh % (pl.length : Int)).toNat pv0).ab)).set ((wn % (nd.length : Int)).toNat) true, (pl.getD (wh % (pl.length : Int)).toNat pv0).r, (pl.getD (wh % (pl.length : Int)).toNat pv0).m⟩ : PV)) := rowsP_set (hpo.rplr.below hB) hrow9
     have hbgX : PoBig nd (pl.set (wh % (pl.length : Int)).toNat (⟨a36, c36, ([] ++ (((pl).getD (wh % (pl.length : Int)).toNat pv0).ab)).set ((wn % (nd.length : Int)).toNat) true, (pl.getD (wh % (pl.length : Int)).toNat pv0).r, (pl.getD (wh % (pl.length : Int)).toNat pv0).m⟩ : PV)) L := big_pset hbg (by show List.length (List.set _ _ _) ≤ _; rw [List.length_set]; have := hab; simp only [List.nil_append]; omega)
     have hard9 := fun h => hard_same hok heas h
     obtain ⟨M9, hM9⟩ : ∃ M9 : List PV, pl.set (wh % (pl.length : Int)).toNat (⟨a36, c36, ([] ++ (((pl).getD (wh % (pl.length : Int)).toNat pv0).ab)).set ((wn % (nd.length : Int)).toNat) true, (pl.getD (wh % (pl.length : Int)).toNat pv0).r, (pl.getD (wh % (pl.length : Int)).toNat pv0).m⟩ : PV) = M9 := ⟨_, rfl⟩
     have hlM9 : pl.length = M9.length := by rw [← hM9, List.length_set]
     rw [hM9] at hrp9 hbgX hard9
     replace hop : w41.ownsRow w.heap.size 32 3 (.slice a9 M9.length c9) M9.length (M9.flatMap PV.enc) := by rw [← hlM9, ← hM9, set_penc (z := (⟨a36, c36, [] ++ (((pl).getD (wh % (pl.length : Int)).toNat pv0).ab), (pl.getD (wh % (pl.length : Int)).toNat pv0).r, (pl.getD (wh % (pl.length : Int)).toNat pv0).m⟩ : PV)) (by show _ = _; unfold PV.enc; rw [List.length_set])]; exact hop
     replace hb5 : Blk w41 b5 [.slice na nd.length nc, .slice a9 M9.length c9, .slice ca L.length cc] := by rw [← hlM9]; exact hb5
     refine r_region' ?_
     refine l_q (q_load_agg (n := 3) Try.isAgg26 Try.sizeOf26 rfl ((hb5.cells' (cs' := [_, _, _]) 0 3 rfl)) rfl rfl) ?_
     refine l_o (o_call Try.call6 rfl (ready10_ret na nc nd a9 c9 M9 ca cc L _ ⟨(hpo.rnd.below hB), (Row.of_owns hop), hrp9, (hpo.rC.below hB), (hpo.rCr.below hB)⟩ hbgX) rfl ?_)
     rintro _ w43 ⟨bb43, rfl, hrdy43, hE43⟩
     replace hB := below_ext hB hE43 hsz
     replace hb1 := hb1.ext hE43
     replace hty_b1 := hty_b1.ext hE43
     replace hb5 := hb5.ext hE43
     replace hty_b5 := hty_b5.ext hE43
     replace hop := own_ext hop hE43
     replace hrp9 := hrp9.ext hE43
     replace hsz := Nat.le_trans hsz hE43.size
     have hrdy := hrdy43
     refine l_q (q_not rfl rfl) ?_
     refine l_q (q_move (v := .bool _) rfl rfl) ?_
     refine l_part 120 rfl (fun hc44 => ?_) (fun hc44 => ?_)
     ·
      replace hc44 := nt hc44
      refine l_q (q_skip rfl) ?_
      refine l_q (q_skip rfl) ?_
      refine l_q (q_skip rfl) ?_
      refine l_q (q_pick_t (v := .bool _) rfl rfl rfl) ?_
      refine l_q (q_move (v := .bool _) rfl rfl) ?_
      refine l_o (o_call Try.call7 rfl (awake_ret _) rfl ?_)
      rintro _ w45 ⟨rfl, hE45⟩
      replace hB := below_ext hB hE45 hsz
      replace hb1 := hb1.ext hE45
      replace hty_b1 := hty_b1.ext hE45
      replace hb5 := hb5.ext hE45
      replace hty_b5 := hty_b5.ext hE45
      replace hop := own_ext hop hE45
      replace hrp9 := hrp9.ext hE45
      replace hsz := Nat.le_trans hsz hE45.size
      refine l_q (q_pick_t (v := .bool _) rfl rfl rfl) ?_
      refine l_q (q_assign (v := .bool _) rfl rfl) ?_
      refine l_nil ?_
      refine r_forget [(8, .bool _)] ⟨rfl, trivial⟩ (fun e46 => ?_)
      refine r_ret_ (vs := [.bool _]) rfl Try.func3 rfl (.nil _) ⟨rfl, trivial⟩ ?_
      exact ⟨rfl, Ext.of_below hB⟩
     ·
      replace hc44 := nf hc44
      have hokx := hrdy hc44
      refine l_q (q_load_agg (n := 3) Try.isAgg26 Try.sizeOf26 rfl ((hb1.cells' (cs' := [_, _, _]) 0 3 rfl)) rfl rfl) ?_
      refine l_q (q_load_agg (n := 3) Try.isAgg26 Try.sizeOf26 rfl ((hb5.cells' (cs' := [_, _, _]) 0 3 rfl)) rfl rfl) ?_
      refine l_o (o_call Try.call9 rfl (harder10_ret na nc nd pa pc pl ca cc L na nc nd a9 c9 M9 ca cc L _ (hpo.below hB) hbg ⟨(hpo.rnd.below hB), (Row.of_owns hop), hrp9, (hpo.rC.below hB), (hpo.rCr.below hB)⟩ hbgX hokx hok (by omega) (hard9 hokx)) rfl ?_)
      rintro _ w47 ⟨rfl, hE47⟩
      replace hB := below_ext hB hE47 hsz
      replace hb1 := hb1.ext hE47
      replace hty_b1 := hty_b1.ext hE47
      replace hb5 := hb5.ext hE47
      replace hty_b5 := hty_b5.ext hE47
      replace hop := own_ext hop hE47
      replace hsz := Nat.le_trans hsz hE47.size
      refine l_q (q_pick_f (v := .bool _) rfl rfl rfl) ?_
      refine l_q (q_move (v := .bool _) rfl rfl) ?_
      refine l_o (o_call Try.call7 rfl (awake_ret _) rfl ?_)
      rintro _ w48 ⟨rfl, hE48⟩
      replace hB := below_ext hB hE48 hsz
      replace hb1 := hb1.ext hE48
      replace hty_b1 := hty_b1.ext hE48
      replace hb5 := hb5.ext hE48
      replace hty_b5 := hty_b5.ext hE48
      replace hop := own_ext hop hE48
      replace hsz := Nat.le_trans hsz hE48.size
      refine l_q (q_pick_t (v := .bool _) rfl rfl rfl) ?_
      refine l_q (q_assign (v := .bool _) rfl rfl) ?_
      refine l_nil ?_
      refine r_forget [(8, .bool _)] ⟨rfl, trivial⟩ (fun e49 => ?_)
      refine r_ret_ (vs := [.bool _]) rfl Try.func3 rfl (.nil _) ⟨rfl, trivial⟩ ?_
      exact ⟨rfl, Ext.of_below hB⟩
    ·
     replace hc34 := df hc34
     refine r_seq ?_
     refine r_draw ext_refl' ext_trans' [0, 1, 2, 3, 4, 5, 6, 7, 8] [5, 6, 8, 1006, 1008] 20 (by kernel_rfl) (by kernel_rfl) ?_
     intro w50 _ hE50
     replace hB := below_ext hB hE50 hsz
     replace hb1 := hb1.ext hE50
     replace hty_b1 := hty_b1.ext hE50
     replace hb5 := hb5.ext hE50
     replace hty_b5 := hty_b5.ext hE50
     replace hop := own_ext hop hE50
     replace hcz := hcz.ext hE50
     replace hsz := Nat.le_trans hsz hE50.size
     refine m_q rfl rfl (fun w' hC' => q_fieldAddr (o' := 1) rfl fld26_1 rfl) ?_
     refine m_q rfl rfl (fun w' hC' => q_load Try.isAgg23 rfl (((hb5.has (o := 1) rfl).ext hC')) rfl) ?_
     refine m_q rfl rfl (fun w' hC' => q_move (v := .pointer _) rfl rfl) ?_
     refine m_q rfl rfl (fun w' hC' => q_nilCheck rfl rfl) ?_
     refine m_q rfl rfl (fun w' hC' => q_load_agg (cs := [.slice (((pl).getD (wh % (pl.length : Int)).toNat pv0).a) (((pl).getD (wh % (pl.length : Int)).toNat pv0).ab.length) (((pl).getD (wh % (pl.length : Int)).toNat pv0).c), vint (((pl).getD (wh % (pl.length : Int)).toNat pv0).r), vint (((pl).getD (wh % (pl.length : Int)).toNat pv0).m)]) (n := 3) Try.isAgg32 Try.sizeOf32 rfl ((hcz.ext hC')) rfl rfl) ?_
     refine m_o rfl rfl (o_buildSlice (el := 32) (cs := [.slice (((pl).getD (wh % (pl.length : Int)).toNat pv0).a) (((pl).getD (wh % (pl.length : Int)).toNat pv0).ab.length) (((pl).getD (wh % (pl.length : Int)).toNat pv0).c), vint (((pl).getD (wh % (pl.length : Int)).toNat pv0).r), vint (((pl).getD (wh % (pl.length : Int)).toNat pv0).m)]) Try.underlying23 el32 (by decide) (by kernel_rfl) rfl (by decide) rfl ?_)
     intro b51 w51 hzl51 hzr51 _ hb51 hE51 ho51
     refine ⟨hE51, ?_⟩
     have hne_b1_b51 : b1 ≠ b51 := by have := hb1.lt; omega
     have hne_b5_b51 : b5 ≠ b51 := by have := hb5.lt; omega
     have hbs_b51 : w.heap.size ≤ b51 := Nat.le_trans hsz hzl51
     replace hB := below_ext hB hE51 hsz
     replace hb1 := hb1.ext hE51
     replace hty_b1 := hty_b1.ext hE51
     replace hb5 := hb5.ext hE51
     replace hty_b5 := hty_b5.ext hE51
     replace hop := own_ext hop hE51
     replace hcz := hcz.ext hE51
     replace hsz := Nat.le_trans hsz hE51.size
     refine m_last rfl rfl rfl (o_append_wide PV.one (pl) (([⟨((pl).getD (wh % (pl.length : Int)).toNat pv0).a, ((pl).getD (wh % (pl.length : Int)).toNat pv0).c, ((pl).getD (wh % (pl.length : Int)).toNat pv0).ab, ((pl).getD (wh % (pl.length : Int)).toNat pv0).r, ((pl).getD (wh % (pl.length : Int)).toNat pv0).m⟩] : List PV)) Try.underlying23 el32 rfl rfl hop rfl (Row.of_owns ho51) (by (try simp only [List.length_append, List.length_cons, List.length_nil, List.length_take, List.length_drop, List.length_replicate]); omega) (by omega) rfl ?_)
     intro a53 c53 w53 hz53 ho53 hG53
     replace hB := below_own hB hG53 hop (by omega) hsz
     replace hsz := Nat.le_trans hsz hG53.size
     replace hb1 := hb1.step hG53 (own_ty_ne hop hty_b1 (by decide))
     replace hb5 := hb5.step hG53 (own_ty_ne hop hty_b5 (by decide))
     replace hty_b1 := TyAt.own hty_b1 hop hG53 (by decide)
     replace hty_b5 := TyAt.own hty_b5 hop hG53 (by decide)
     refine m_q rfl rfl (fun w' hC' => q_fieldAddr (o' := 1) rfl fld26_1 rfl) ?_
     refine m_last rfl rfl rfl (o_storet (vs := [.slice a53 ((pl ++ ([⟨((pl).getD (wh % (pl.length : Int)).toNat pv0).a, ((pl).getD (wh % (pl.length : Int)).toNat pv0).c, ((pl).getD (wh % (pl.length : Int)).toNat pv0).ab, ((pl).getD (wh % (pl.length : Int)).toNat pv0).r, ((pl).getD (wh % (pl.length : Int)).toNat pv0).m⟩] : List PV)).length) c53]) (cs' := [.slice na nd.length nc, .slice a53 ((pl ++ ([⟨((pl).getD (wh % (pl.length : Int)).toNat pv0).a, ((pl).getD (wh % (pl.length : Int)).toNat pv0).c, ((pl).getD (wh % (pl.length : Int)).toNat pv0).ab, ((pl).getD (wh % (pl.length : Int)).toNat pv0).r, ((pl).getD (wh % (pl.length : Int)).toNat pv0).m⟩] : List PV)).length) c53, .slice ca L.length cc]) Try.sizeOf23 rfl rfl rfl rfl hb5 (Nat.le_of_ble_eq_true rfl) rfl rfl ?_)
     intro w54 hz54 hb5 hT54 hG54
     replace hB := below_upd hB hG54 hsz (by omega)
     replace hsz : w.heap.size ≤ w54.heap.size := by rw [hz54]; exact hsz
     replace hb1 := hb1.upd hG54 (by omega)
     replace hty_b1 := hty_b1.upd hG54 (by omega)
     replace ho53 := own_ty_upd ho53 hty_b5 hG54 (by decide)
     replace hty_b5 := hT54 _ hty_b5
     refine m_nil ?_
     refine r_forget [(4, .pointer _), (9, .pointer _), (10, .int _ _)] ⟨rfl, rfl, rfl, trivial⟩ (fun e55 => ?_)
     refine r_seq ?_
     have hszR9 : w.heap.size ≤ w54.heap.size := hsz
     have hszW := Nat.le_refl w54.heap.size
     have hlt_ho53 := fun g hg => (ho53.lt g hg).2
     refine r_region' ?_
     refine l_q (q_fieldAddr (o' := 2) rfl fld26_2 rfl) ?_
     refine l_q (q_load Try.isAgg24 rfl ((hb1.has (o := 2) rfl)) rfl) ?_
     refine l_o (o_call Try.call8 rfl (rowsd10_ret _ _ L _ (hpo.rC.below hB) (hpo.rCr.below hB) hLl hLs) rfl ?_)
     have hszp56 : w.heap.size ≤ w54.heap.size := hsz
     have hbl_b1 := hb1.lt
     have hbl_b5 := hb5.lt
     rintro _ w56 ⟨oa56, oc56, L56, rfl, ho56, hos56, hm56, hd56, hE56⟩
     replace ho56 := own_mono ho56 (show w54.heap.size ≤ _ by omega)
     replace hB := below_ext hB hE56 hsz
     replace hb1 := hb1.ext hE56
     replace hty_b1 := hty_b1.ext hE56
     replace hb5 := hb5.ext hE56
     replace hty_b5 := hty_b5.ext hE56
     replace ho53 := own_ext ho53 hE56
     replace hszW := Nat.le_trans hszW hE56.size
     replace hsz := Nat.le_trans hsz hE56.size
     have hLNl56 : L56.length = L.length := by have := congrArg List.length hm56; rwa [List.length_map, List.length_map] at this
     refine l_q (q_fieldAddr (o' := 2) rfl fld26_2 rfl) ?_
     refine l_o (o_storet (vs := [.slice oa56 ((L56).length) oc56]) (cs' := [.slice na nd.length nc, .slice a53 ((pl ++ ([⟨((pl).getD (wh % (pl.length : Int)).toNat pv0).a, ((pl).getD (wh % (pl.length : Int)).toNat pv0).c, ((pl).getD (wh % (pl.length : Int)).toNat pv0).ab, ((pl).getD (wh % (pl.length : Int)).toNat pv0).r, ((pl).getD (wh % (pl.length : Int)).toNat pv0).m⟩] : List PV)).length) c53, .slice oa56 ((L56).length) oc56]) Try.sizeOf24 rfl rfl rfl rfl hb5 (Nat.le_of_ble_eq_true rfl) rfl rfl ?_)
     intro w57 hz57 hb5 hT57 hG57
     replace hB := below_upd hB hG57 hsz (by omega)
     replace hsz : w.heap.size ≤ w57.heap.size := by rw [hz57]; exact hsz
     replace hb1 := hb1.upd hG57 (by omega)
     replace hty_b1 := hty_b1.upd hG57 (by omega)
     replace ho53 := own_ty_upd ho53 hty_b5 hG57 (by decide)
     replace hszW := Nat.le_trans hszW hG57.size
     replace ho56 := own_ty_upd ho56 hty_b5 hG57 (by decide)
     replace hos56 := OwnsI.tyupd hos56 hty_b5 hG57 (by decide)
     replace hty_b5 := hT57 _ hty_b5
     refine l_nil (r_seq (r_region' ?_))
     refine l_q (q_assign (v := .int _ _) rfl rfl) ?_
     refine l_nil (r_block ?_)
     refine r_rounds (α := Nat × (List SV)) (fun ⟨c, M⟩ e wl => Knows e [(4, ptr b1 0), (9, ptr b5 0), (10, vint (wh % (pl.length : Int))), (12, vint (c : Int))] ∧ (c ≤ L.length) ∧ (AppAt (wh % (pl.length : Int)).toNat c L M) ∧ (Dis M) ∧ (Blk wl b5 [.slice na nd.length nc, .slice a53 ((pl ++ ([⟨((pl).getD (wh % (pl.length : Int)).toNat pv0).a, ((pl).getD (wh % (pl.length : Int)).toNat pv0).c, ((pl).getD (wh % (pl.length : Int)).toNat pv0).ab, ((pl).getD (wh % (pl.length : Int)).toNat pv0).r, ((pl).getD (wh % (pl.length : Int)).toNat pv0).m⟩] : List PV)).length) c53, .slice oa56 ((L56).length) oc56]) ∧ (wl.ownsRow w54.heap.size 22 1 (.slice oa56 ((L56).length) oc56) ((L56).length) ((M).map SV.enc)) ∧ (OwnsI wl w54.heap.size 3 M) ∧ (Blk wl b1 [.slice na nd.length nc, .slice pa pl.length pc, .slice ca L.length cc]) ∧ (TyAt wl b1 26) ∧ (TyAt wl b5 26) ∧ (wl.ownsRow w.heap.size 32 3 (.slice a53 ((pl ++ ([⟨((pl).getD (wh % (pl.length : Int)).toNat pv0).a, ((pl).getD (wh % (pl.length : Int)).toNat pv0).c, ((pl).getD (wh % (pl.length : Int)).toNat pv0).ab, ((pl).getD (wh % (pl.length : Int)).toNat pv0).r, ((pl).getD (wh % (pl.length : Int)).toNat pv0).m⟩] : List PV)).length) c53) ((pl ++ ([⟨((pl).getD (wh % (pl.length : Int)).toNat pv0).a, ((pl).getD (wh % (pl.length : Int)).toNat pv0).c, ((pl).getD (wh % (pl.length : Int)).toNat pv0).ab, ((pl).getD (wh % (pl.length : Int)).toNat pv0).r, ((pl).getD (wh % (pl.length : Int)).toNat pv0).m⟩] : List PV)).length) ((pl ++ ([⟨((pl).getD (wh % (pl.length : Int)).toNat pv0).a, ((pl).getD (wh % (pl.length : Int)).toNat pv0).c, ((pl).getD (wh % (pl.length : Int)).toNat pv0).ab, ((pl).getD (wh % (pl.length : Int)).toNat pv0).r, ((pl).getD (wh % (pl.length : Int)).toNat pv0).m⟩] : List PV)).flatMap PV.enc)) ∧ (w54.heap.size ≤ wl.heap.size) ∧ (w.heap.size ≤ wl.heap.size) ∧ (Below w.heap.size w wl)) (fun ⟨c, M⟩ => L.length - c) (0, L56) ?_ ?_
     ·
      exact ⟨⟨rfl, rfl, rfl, rfl, trivial⟩, (Nat.zero_le _), (app_zero hm56), hd56, hb5, ho56, hos56, hb1, hty_b1, hty_b5, ho53, hszW, hsz, hB⟩
     ·
      rintro ⟨c, M⟩ el58 wl58 ⟨hkn, hc, hM, hdM, hb5, hoC, hosC, hb1, hty_b1, hty_b5, ho53, hszW, hsz, hB⟩ ih58
      obtain ⟨e58, rfl⟩ := knows_env hkn
      refine r_seq (r_seq (r_region' ?_))
      refine l_q (q_move (v := .int _ _) rfl rfl) ?_
      refine l_q (q_fieldAddr (o' := 2) rfl fld26_2 rfl) ?_
      refine l_q (q_load Try.isAgg24 rfl ((hb5.has (o := 2) rfl)) rfl) ?_
      refine l_q (q_len rfl Try.underlying24 rfl rfl) ?_
      refine l_q (q_lss rfl rfl rfl) ?_
      refine l_nil ?_
      refine r_cond rfl (fun hc59 => ?_) (fun hc59 => ?_)
      ·
       replace hc59 := dt hc59
       have hcL : c < L.length := by omega
       have hMc : (M.getD c sv0).xs = (L.getD c sv0).xs := by rw [hM.2 c hcL, if_neg (Nat.lt_irrefl _)]
       have hrow := hLL _ (getD_lt (d := sv0) hcL)
       have hrl : (L.getD c sv0).xs.length = pl.length := hrow.1
       have hrm : (M.getD c sv0).xs.length = pl.length := by rw [hMc]; exact hrow.1
       have hMl := hM.1
       refine r_skip (r_seq (r_block ?_))
       refine r_draw2 (ex := fun y i => (i == 17 && decide (2 < y)) || i == 19) (ClsR.refl b5 [.slice na nd.length nc, .slice a53 ((pl ++ ([⟨((pl).getD (wh % (pl.length : Int)).toNat pv0).a, ((pl).getD (wh % (pl.length : Int)).toNat pv0).c, ((pl).getD (wh % (pl.length : Int)).toNat pv0).ab, ((pl).getD (wh % (pl.length : Int)).toNat pv0).r, ((pl).getD (wh % (pl.length : Int)).toNat pv0).m⟩] : List PV)).length) c53, .slice oa56 ((L56).length) oc56] 2) (ClsR.trans b5 [.slice na nd.length nc, .slice a53 ((pl ++ ([⟨((pl).getD (wh % (pl.length : Int)).toNat pv0).a, ((pl).getD (wh % (pl.length : Int)).toNat pv0).c, ((pl).getD (wh % (pl.length : Int)).toNat pv0).ab, ((pl).getD (wh % (pl.length : Int)).toNat pv0).r, ((pl).getD (wh % (pl.length : Int)).toNat pv0).m⟩] : List PV)).length) c53, .slice oa56 ((L56).length) oc56] 2) [0, 1, 2, 3, 4, 5, 6, 7, 8, 9, 10, 11, 12, 13, 14, 15, 16, 17, 18, 19] [16, 17, 19] 60 (by kernel_rfl) (by kernel_rfl) ?_
       intro w60 _ hE60
       replace hB := below_ext hB hE60 hsz
       replace hb1 := hb1.ext hE60
       replace hty_b1 := hty_b1.ext hE60
       replace hb5 := hb5.ext hE60
       replace hty_b5 := hty_b5.ext hE60
       replace ho53 := own_ext ho53 hE60
       replace hszW := Nat.le_trans hszW hE60.size
       replace hoC := own_ext hoC hE60
       replace hosC := hosC.ext hE60
       replace hsz := Nat.le_trans hsz hE60.size
       refine m_q2 rfl rfl (fun w' hC' => q_fieldAddr (o' := 2) rfl fld26_2 rfl) ?_
       refine m_q2 rfl rfl (fun w' hC' => q_load Try.isAgg24 rfl (((hC'.get (by decide) hb5).has (o := 2) rfl)) rfl) ?_
       refine m_q2 rfl rfl (fun w' hC' => q_move (v := .int _ _) rfl rfl) ?_
       refine m_q2 rfl rfl (fun w' hC' => q_fieldAddr (o' := 2) rfl fld26_2 rfl) ?_
       refine m_q2 rfl rfl (fun w' hC' => q_load Try.isAgg24 rfl (((hb5.ext (hC'.up (by decide))).has (o := 2) rfl)) rfl) ?_
       refine m_q2 rfl rfl (fun w' hC' => q_move (v := .int _ _) rfl rfl) ?_
       have hr62 := hosC.rows.get (i := c) (by omega)
       obtain ⟨b61, o61, ha61, hh61⟩ := (Row.of_owns hoC).at1 c ((M).getD c sv0) (getD_some (by omega))
       refine m_q2 rfl rfl (fun w' hC' => q_indexAddr1 Try.underlying24 Try.sizeOf22 rfl ha61 rfl (by omega) rfl) ?_
       refine m_q2 rfl rfl (fun w' hC' => q_load Try.isAgg22 rfl ((hh61.ext (hC'.up (by decide)))) rfl) ?_
       refine m_q2 rfl rfl (fun w' hC' => q_fieldAddr (o' := 2) rfl fld26_2 rfl) ?_
       refine m_q2 rfl rfl (fun w' hC' => q_load Try.isAgg24 rfl (((hb1.ext (hC'.up (by decide))).has (o := 2) rfl)) rfl) ?_
       refine m_q2 rfl rfl (fun w' hC' => q_move (v := .int _ _) rfl rfl) ?_
       obtain ⟨b63, o63, ha63, hh63⟩ := (hpo.rC.below hB).at1 c ((L).getD c sv0) (getD_some (by omega))
       refine m_q2 rfl rfl (fun w' hC' => q_indexAddr1 Try.underlying24 Try.sizeOf22 rfl ha63 rfl (by omega) rfl) ?_
       refine m_q2 rfl rfl (fun w' hC' => q_load Try.isAgg22 rfl ((hh63.ext (hC'.up (by decide)))) rfl) ?_
       refine m_q2 rfl rfl (fun w' hC' => q_move (v := .int _ _) rfl rfl) ?_
       obtain ⟨b64, o64, ha64, hh64⟩ := ((RowsI.get (hpo.rCr) (i := c) (by omega)).below hB).at1 (wh % (pl.length : Int)).toNat ((((L).getD c sv0).xs).getD (wh % (pl.length : Int)).toNat 0) (getD_some (by omega))
       refine m_q2 rfl rfl (fun w' hC' => q_indexAddr1 Try.underlying22 Try.sizeOf3 rfl ha64 rfl (by omega) rfl) ?_
       refine m_q2 rfl rfl (fun w' hC' => q_load Try.isAgg3 rfl ((hh64.ext (hC'.up (by decide)))) rfl) ?_
       have hbl_b1 := hb1.lt
       have hbl_b5 := hb5.lt
       refine m_o2 rfl rfl (o_buildSlice (el := 3) (cs := [vint ((((L).getD c sv0).xs).getD (wh % (pl.length : Int)).toNat 0)]) Try.underlying22 el3 (by decide) (by kernel_rfl) rfl (by decide) rfl ?_)
       intro b65 w65 hzl65 hzr65 _ hb65 hE65 ho65
       refine ⟨(fun y _ => ClsR.ext hE65 y), ?_⟩
       have hne_b1_b65 : b1 ≠ b65 := by have := hb1.lt; omega
       have hne_b5_b65 : b5 ≠ b65 := by have := hb5.lt; omega
       have hbs_b65 : w.heap.size ≤ b65 := Nat.le_trans hsz hzl65
       have hWp_b65 := hszW
       have hbW_b65 := Nat.le_trans hszW hzl65
       replace hB := below_ext hB hE65 hsz
       replace hb1 := hb1.ext hE65
       replace hty_b1 := hty_b1.ext hE65
       replace hb5 := hb5.ext hE65
       replace hty_b5 := hty_b5.ext hE65
       replace ho53 := own_ext ho53 hE65
       replace hszW := Nat.le_trans hszW hE65.size
       replace hoC := own_ext hoC hE65
       replace hosC := hosC.ext hE65
       replace hsz := Nat.le_trans hsz hE65.size
       replace ho65 := own_mono ho65 (show w54.heap.size ≤ _ by omega)
       have hbl_b1 := hb1.lt
       have hbl_b5 := hb5.lt
       have hown := hosC (M.getD c sv0) (getD_lt (d := sv0) (show c < M.length by omega))
       refine m_o2 rfl rfl (o_append_at (f := vint) ((M.getD c sv0).xs) ([(((L).getD c sv0).xs).getD (wh % (pl.length : Int)).toNat 0]) Try.underlying22 el3 rfl rfl hown rfl (Row.of_owns ho65) (Nat.zero_lt_succ _) (fun _ => rfl) (by (try simp only [List.length_append, List.length_cons, List.length_nil]); omega) (by omega) rfl ?_)
       intro a66 c66 w66 hz66 ho66 hG66 hat66
       refine ⟨fun y hy => ClsR.put (by simpa using hy) (fun h => h.step hG66 (own_ty_ne hown hty_b5 (by decide))), ?_⟩
       have hdN : Dis (M.set c (⟨a66, c66, (M.getD c sv0).xs ++ [(((L).getD c sv0).xs).getD (wh % (pl.length : Int)).toNat 0]⟩ : SV)) := Dis.set2 hdM hosC (by omega) hat66
       have hosN : OwnsI w66 w54.heap.size 3 (M.set c (⟨a66, c66, (M.getD c sv0).xs ++ [(((L).getD c sv0).xs).getD (wh % (pl.length : Int)).toNat 0]⟩ : SV)) := OwnsI.set hosC hdM (by omega) hG66 ho66
       replace hB := below_own hB hG66 hown (by omega) hsz
       replace hsz := Nat.le_trans hsz hG66.size
       replace hb1 := hb1.step hG66 (own_ty_ne hown hty_b1 (by decide))
       replace hb5 := hb5.step hG66 (own_ty_ne hown hty_b5 (by decide))
       replace ho53 := own_kept ho53 hown (by decide) hG66
       replace hszW := Nat.le_trans hszW hG66.size
       replace hoC := own_kept hoC hown (by decide) hG66
       replace hty_b1 := TyAt.own hty_b1 hown hG66 (by decide)
       replace hty_b5 := TyAt.own hty_b5 hown hG66 (by decide)
       have hMn : AppAt (wh % (pl.length : Int)).toNat (c + 1) L (M.set c (⟨a66, c66, (M.getD c sv0).xs ++ [(((L).getD c sv0).xs).getD (wh % (pl.length : Int)).toNat 0]⟩ : SV)) := app_step hM hcL rfl
       have hr68 := hosC.rows.get (i := c) (by omega)
       obtain ⟨b67, o67, ha67, hh67⟩ := (Row.of_owns hoC).at1 c ((M).getD c sv0) (getD_some (by omega))
       refine m_q2 rfl rfl (fun w' hC' => q_indexAddr1 Try.underlying24 Try.sizeOf22 rfl ha67 rfl (by omega) rfl) ?_
       refine m_o2 rfl rfl (o_store_own (f := SV.enc) M c ⟨a66, c66, (M.getD c sv0).xs ++ [(((L).getD c sv0).xs).getD (wh % (pl.length : Int)).toNat 0]⟩ Try.sizeOf22 rfl ha67 rfl rfl (fun _ => rfl) hoC (by omega) rfl ?_)
       intro w69 hz69 ho69 hG69
       refine ⟨fun y hy => absurd hy (by simp), ?_⟩
       replace hB := below_own hB hG69 hoC (by omega) hsz
       replace hsz := Nat.le_trans hsz hG69.size
       replace hb1 := hb1.step hG69 (own_ty_ne hoC hty_b1 (by decide))
       replace hb5 := hb5.step hG69 (own_ty_ne hoC hty_b5 (by decide))
       replace ho53 := own_kept ho53 hoC (by decide) hG69
       replace hszW := Nat.le_trans hszW hG69.size
       replace hosN := hosN.kept hoC (by decide) hG69
       replace hty_b1 := TyAt.own hty_b1 hoC hG69 (by decide)
       replace hty_b5 := TyAt.own hty_b5 hoC hG69 (by decide)
       replace hoC := ho69
       have hls69 : ((M).set c ⟨a66, c66, (M.getD c sv0).xs ++ [(((L).getD c sv0).xs).getD (wh % (pl.length : Int)).toNat 0]⟩).length = (M).length := List.length_set
       refine m_nil2 ?_
       refine r_forget [(4, .pointer _), (9, .pointer _), (10, .int _ _), (12, .int _ _)] ⟨rfl, rfl, rfl, rfl, trivial⟩ (fun e70 => ?_)
       refine r_inBlock (r_region' ?_)
       refine l_q (q_move (v := .int _ _) rfl rfl) ?_
       refine l_q (q_add rfl rfl (by omega) rfl) ?_
       refine l_q (q_assign (v := .int _ _) rfl rfl) ?_
       refine l_nil ?_
       exact ih58 (c + 1, M.set c (⟨a66, c66, (M.getD c sv0).xs ++ [(((L).getD c sv0).xs).getD (wh % (pl.length : Int)).toNat 0]⟩ : SV)) _ _ ⟨⟨rfl, rfl, rfl, (vint_eq (by omega)), trivial⟩, (by omega), hMn, hdN, hb5, hoC, hosN, hb1, hty_b1, hty_b5, ho53, hszW, hsz, hB⟩ (by first | omega | (dsimp only; omega))
      ·
       replace hc59 := dlt hc59
       refine r_exit rfl ?_
       refine r_inBlock (r_seq ?_)
       obtain rfl : c = L.length := by omega
       have hML : L56.length = M.length := by rw [hLNl56]; exact hM.1.symm
       rw [hML] at hb5 hoC
       have hbgX : PoBig nd (pl ++ [(pl.getD (wh % (pl.length : Int)).toNat pv0)]) M := big_papp hbg hp4 hkk hM (fun s hs => by have := (hLL s hs).1; omega)
       refine r_region' ?_
       refine l_q (q_load_agg (n := 3) Try.isAgg26 Try.sizeOf26 rfl ((hb5.cells' (cs' := [_, _, _]) 0 3 rfl)) rfl rfl) ?_
       refine l_o (o_call Try.call6 rfl (ready10_ret na nc nd a53 c53 (pl ++ [(pl.getD (wh % (pl.length : Int)).toNat pv0)]) oa56 oc56 M _ ⟨(hpo.rnd.below hB), (Row.of_owns ho53), (rowsP_app (hpo.rplr.below hB) ((hpo.rplr.below hB) _ (getD_lt (d := pv0) hkk))), (Row.of_owns hoC), hosC.rows⟩ hbgX) rfl ?_)
       rintro _ w71 ⟨bb71, rfl, hrdy71, hE71⟩
       replace hB := below_ext hB hE71 hsz
       replace hb1 := hb1.ext hE71
       replace hb5 := hb5.ext hE71
       replace ho53 := own_ext ho53 hE71
       replace hoC := own_ext hoC hE71
       replace hosC := hosC.ext hE71
       replace hsz := Nat.le_trans hsz hE71.size
       have hrdy := hrdy71
       refine l_q (q_not rfl rfl) ?_
       refine l_q (q_move (v := .bool _) rfl rfl) ?_
       refine l_part 120 rfl (fun hc72 => ?_) (fun hc72 => ?_)
       ·
        replace hc72 := nt hc72
        refine l_q (q_skip rfl) ?_
        refine l_q (q_skip rfl) ?_
        refine l_q (q_skip rfl) ?_
        refine l_q (q_pick_t (v := .bool _) rfl rfl rfl) ?_
        refine l_q (q_move (v := .bool _) rfl rfl) ?_
        refine l_o (o_call Try.call7 rfl (awake_ret _) rfl ?_)
        rintro _ w73 ⟨rfl, hE73⟩
        replace hB := below_ext hB hE73 hsz
        replace hb1 := hb1.ext hE73
        replace hb5 := hb5.ext hE73
        replace ho53 := own_ext ho53 hE73
        replace hoC := own_ext hoC hE73
        replace hosC := hosC.ext hE73
        replace hsz := Nat.le_trans hsz hE73.size
        refine l_q (q_pick_t (v := .bool _) rfl rfl rfl) ?_
        refine l_q (q_assign (v := .bool _) rfl rfl) ?_
        refine l_nil ?_
        refine r_forget [(8, .bool _)] ⟨rfl, trivial⟩ (fun e74 => ?_)
        refine r_ret_ (vs := [.bool _]) rfl Try.func3 rfl (.nil _) ⟨rfl, trivial⟩ ?_
        exact ⟨rfl, Ext.of_below hB⟩
       ·
        replace hc72 := nf hc72
        have hokx := hrdy hc72
        refine l_q (q_load_agg (n := 3) Try.isAgg26 Try.sizeOf26 rfl ((hb1.cells' (cs' := [_, _, _]) 0 3 rfl)) rfl rfl) ?_
        refine l_q (q_load_agg (n := 3) Try.isAgg26 Try.sizeOf26 rfl ((hb5.cells' (cs' := [_, _, _]) 0 3 rfl)) rfl rfl) ?_
        refine l_o (o_call Try.call9 rfl (harder10_ret na nc nd pa pc pl ca cc L na nc nd a53 c53 (pl ++ [(pl.getD (wh % (pl.length : Int)).toNat pv0)]) oa56 oc56 M _ (hpo.below hB) hbg ⟨(hpo.rnd.below hB), (Row.of_owns ho53), (rowsP_app (hpo.rplr.below hB) ((hpo.rplr.below hB) _ (getD_lt (d := pv0) hkk))), (Row.of_owns hoC), hosC.rows⟩ hbgX hokx hok (by rw [List.length_append]; omega) (hard_more hok hm0 hM hokx)) rfl ?_)
        rintro _ w75 ⟨rfl, hE75⟩
        replace hB := below_ext hB hE75 hsz
        replace hsz := Nat.le_trans hsz hE75.size
        refine l_q (q_pick_f (v := .bool _) rfl rfl rfl) ?_
        refine l_q (q_move (v := .bool _) rfl rfl) ?_
        refine l_o (o_call Try.call7 rfl (awake_ret _) rfl ?_)
        rintro _ w76 ⟨rfl, hE76⟩
        replace hB := below_ext hB hE76 hsz
        replace hsz := Nat.le_trans hsz hE76.size
        refine l_q (q_pick_t (v := .bool _) rfl rfl rfl) ?_
        refine l_q (q_assign (v := .bool _) rfl rfl) ?_
        refine l_nil ?_
        refine r_forget [(8, .bool _)] ⟨rfl, trivial⟩ (fun e77 => ?_)
        refine r_ret_ (vs := [.bool _]) rfl Try.func3 rfl (.nil _) ⟨rfl, trivial⟩ ?_
        exact ⟨rfl, Ext.of_below hB⟩
end Go.Proofs.Ytgdanglidienmaa
