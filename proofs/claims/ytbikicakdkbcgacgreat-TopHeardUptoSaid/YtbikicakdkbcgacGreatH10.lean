/- Contracts. -/
import Derived.Test.YtbikicakdkbcgacGreatH9
set_option linter.unusedVariables false
set_option linter.unusedSimpArgs false
namespace Go.Proofs.YtbikicakdkbcgacGreat
open Go Go.RowKit Go.Gv Go.Fl

/-! ### Earliest -/
def lateF (e : Nat) (x : Int) : Int := if (e : Int) < x then -1 else x
theorem row_take6 {w : World} {b n : Nat} {L : List Int} (h : Blk w b (L.map vint)) (hn : n ≤ L.length) (hl : (L.map vint).length = 6) : Row w (some ⟨b, 0, none⟩) (L.take n).length 6 1 ((L.take n).map vint) := by
  rw [List.length_map] at hl
  refine ⟨by rw [List.length_map, Nat.mul_one], by rw [List.length_take]; omega, .inr ⟨b, 0, rfl, fun t v hv => ?_⟩⟩
  have hv2 : (L.map vint)[t]? = some v := by
    rw [List.map_take] at hv
    rw [List.getElem?_take] at hv
    split at hv
    · exact hv
    · cases hv
  have := h.has (o := t) hv2
  simpa using this
theorem slice_len6 {b n c : Nat} {i : Int} {L : List Int} (hl : (L.map vint).length = 6) (h : i.toNat = n ∧ n ≤ 6) : Value.slice (some ⟨b, 0, none⟩) i.toNat c = .slice (some ⟨b, 0, none⟩) (L.take n).length c := by
  rw [List.length_map] at hl
  rw [List.length_take, h.1, Nat.min_eq_left (by omega)]
section
variable {H : List Int} {k n e : Nat}
theorem late_snoc {l : List Int} (hk : k < l.length) : (l.take k).map (lateF e) ++ [lateF e (l.getD k 0)] = (l.take (k + 1)).map (lateF e) := by
  rw [List.take_add_one, List.getElem?_eq_getElem hk, List.map_append, List.getD_eq_getElem?_getD, List.getElem?_eq_getElem hk]; rfl
theorem late_yes {l : List Int} (hk : k < l.length) (h : (e : Int) < l.getD k 0) : (l.take k).map (lateF e) ++ [-1] = (l.take (k + 1)).map (lateF e) := by
  rw [← late_snoc hk, lateF, if_pos h]
theorem late_no {l : List Int} (hk : k < l.length) (h : l.getD k 0 ≤ (e : Int)) : (l.take k).map (lateF e) ++ [l.getD k 0] = (l.take (k + 1)).map (lateF e) := by
  rw [← late_snoc hk, lateF, if_neg (by omega)]
theorem late_fin {fr st0 b : Nat} (hE : EH fr st0 e H) (hs : st0 < e) (hb : b < n) (h6 : n ≤ 6) (hd : H.getD b 0 ≤ (st0 : Int) + 1) (hne : b ≠ fr) : ((H.take n).map (lateF e)).getD b 0 = (st0 : Int) + 1 := by
  have h1 := hE.oth b (by omega) hne
  have hl := hE.len
  have h2 : H.getD b 0 = (st0 : Int) + 1 := by omega
  have h3 : b < H.length := by omega
  rw [List.getD_eq_getElem?_getD, List.getElem?_eq_getElem h3] at h2
  rw [List.getD_eq_getElem?_getD, List.getElem?_map, List.getElem?_take, if_pos hb, List.getElem?_eq_getElem h3]
  show lateF e H[b] = _
  have h4 : H[b] = (st0 : Int) + 1 := h2
  rw [h4, lateF, if_neg (by omega)]
end


theorem Earliest_ret (sa : Option Addr) (sc : Nat) (sl : List S4) (ra : Option Addr) (rc : Nat) (rl : List WL) (ka : Option Addr) (kc : Nat) (kl : List KV) (ua : Option Addr) (uc : Nat) (ul : List S3) (fr st0 ki : Nat) (w : World) (hla : LandAt w sa sc sl ra rc rl ka kc kl ua uc ul) (hok : OkL sl rl kl ul) (hgf : fr < sl.length) (hst : st0 < ul.length) (hgk : ki < kl.length) : Ret Tryz.prog 13 [.agg ⟨[.slice sa sl.length sc, .slice ra rl.length rc, .slice ka kl.length kc, .slice ua ul.length uc]⟩, vint (fr : Int), vint (st0 : Int), vint (ki : Int)] w (fun v w' => ∃ oa oc T, v = .tuple ⟨[.slice oa (List.length T) oc, vint 0]⟩ ∧ Row w' oa T.length oc 1 (T.map vint) ∧ T.length = sl.length ∧ (∀ b, b < sl.length → b ≠ fr → canF sl rl kl ul fr b ki st0 = true → T.getD b 0 = (st0 : Int) + 1) ∧ Ext w w') := by
 have hs6 := hok.s6
 have hr6 := hok.r6
 have hk4 := hok.k4
 have hu12 := hok.u12
 have hs0 := hok.s0
 have hk0 := hok.k0
 have hu0 := hok.u0
 have hB := Below.refl w.heap.size w
 have hsz : w.heap.size ≤ w.heap.size := Nat.le_refl _
 refine ret_of_runs (args := [_, _, _, _]) Tryz.func13 rfl (Nat.le_of_ble_eq_true rfl) (by kernel_rfl) (r_seq (r_region' (l_o (o_box rfl rfl rfl ?_))))
 intro b1 w1 hzl1 hzr1 _ hb1 hE1
 have hbs_b1 : w.heap.size ≤ b1 := Nat.le_trans hsz hzl1
 replace hB := below_ext hB hE1 hsz
 replace hsz := Nat.le_trans hsz hE1.size
 refine l_q (qas rfl rfl) (l_q (qai rfl rfl) (l_nil (r_seq (r_region' (l_q (q_load_agg (n := 4) Tryz.isAgg52 Tryz.sizeOf52 rfl ((hb1.cells' (cs' := [_, _, _, _]) 0 4 rfl)) rfl rfl) (l_q (qmi rfl rfl) (l_o (o_buildSlice (el := 3) (cs := [vint (fr : Int)]) Tryz.underlying31 el3 (by decide) (by kernel_rfl) rfl (by decide) rfl ?_))))))))
 intro b2 w2 hzl2 hzr2 _ hb2 hE2 ho2
 have hne_b1_b2 : b1 ≠ b2 := by have := hb1.lt; omega
 have hbs_b2 : w.heap.size ≤ b2 := Nat.le_trans hsz hzl2
 replace hB := below_ext hB hE2 hsz
 replace hb1 := hb1.ext hE2
 replace hsz := Nat.le_trans hsz hE2.size
 refine l_q (qmi rfl rfl) (l_o (o_buildSlice (el := 3) (cs := [vint (st0 : Int)]) Tryz.underlying31 el3 (by decide) (by kernel_rfl) rfl (by decide) rfl ?_))
 intro b3 w3 hzl3 hzr3 _ hb3 hE3 ho3
 have hne_b1_b3 : b1 ≠ b3 := by have := hb1.lt; omega
 have hbs_b3 : w.heap.size ≤ b3 := Nat.le_trans hsz hzl3
 replace hB := below_ext hB hE3 hsz
 replace hb1 := hb1.ext hE3
 replace ho2 := own_ext ho2 hE3
 replace hsz := Nat.le_trans hsz hE3.size
 refine l_q (qmi rfl rfl) (l_o (o_call Tryz.call26 rfl (ropen_ret sa sc sl ra rc rl ka kc kl ua uc ul (some ⟨b2, 0, none⟩) 1 [(fr : Int)] (some ⟨b3, 0, none⟩) 1 [(st0 : Int)] ki _ (hla.below hB) hok (Row.of_owns ho2) (by simp) (Row.of_owns ho3) (by simp) (by simp; omega) (by simp; omega) hgk) rfl ?_))
 rintro _ w4 ⟨wb, ga, gc, ms, rfl, hml, hMs, hkw, hbw, hEw⟩
 have hlo_b1 := hb1.lt
 have hszo := hsz
 obtain ⟨hbm0, hM1⟩ := hMs.get (k := ki) (by omega)
 have hbs_m : w.heap.size ≤ ms.getD ki 0 := Nat.le_trans hsz hbm0
 have hbs_wb : w.heap.size ≤ wb := Nat.le_trans hsz hbw
 generalize hm : ms.getD ki 0 = m at hbm0 hM1 hbs_m
 replace hB := below_ext hB hEw hsz
 replace hb1 := hb1.ext hEw
 replace hsz := Nat.le_trans hsz hEw.size
 have hBE := Below.refl w4.heap.size w4
 have hszq : w4.heap.size ≤ w4.heap.size := Nat.le_refl _
 refine l_q (q_move (v := .tuple _) rfl rfl) (l_q (q_extract (vs := [_, _]) (v := .pointer _) rfl rfl rfl) (l_q (q_extract (vs := [_, _]) (v := .int _ _) rfl rfl rfl) (l_q (q_assign (v := .pointer _) rfl rfl) (l_q (qai rfl rfl) (l_nil (r_forget [(1, .int _ _), (2, .int _ _), (3, .int _ _), (4, .pointer _), (10, .pointer _), (11, .int _ _)] ⟨rfl, rfl, rfl, rfl, rfl, rfl, trivial⟩ (fun e5 => (r_seq (r_seq (r_region' (l_q (qmi rfl rfl) (l_q (q_neq rfl rfl rfl) (l_nil ?_)))))))))))))
 have hk6 : (!decide (0 = 0)) = false := by decide
 refine r_cond_f ((congrArg Value.bool hk6 : Value.bool _ = _)) (r_skip (r_seq (r_region' (l_q (qas rfl rfl) (l_nil (r_seq (r_region' (l_q (q_move (v := .pointer _) rfl rfl) (l_q (qmi rfl rfl) (l_q (qmi rfl rfl) (l_q (qmi rfl rfl) (l_o (o_call Tryz.call27 rfl (earliest_ret sa sc sl ra rc rl ka kc kl ua uc ul wb ga gc ms m 0 [] fr st0 ki _ hok (hkw.ext (Ext.of_below hBE)) (hM1.ext (Ext.of_below hBE)) memoF_nil hgf hst hgk hml hm) rfl ?_)))))))))))))
 rintro _ w7 ⟨H, rfl, hEH, hDH, hGe⟩
 have hk2 := (hkw.ext (Ext.of_below hBE)).gm (hM1.ext (Ext.of_below hBE)) hGe
 replace hB := below_upd_any hB hGe hbs_m hsz
 replace hsz := Nat.le_trans hsz hGe.size
 replace hb1 := hb1.upd hGe (by omega)
 have hBE := Below.refl w7.heap.size w7
 have hszq : w7.heap.size ≤ w7.heap.size := Nat.le_refl _
 refine l_o (o_alloc Tryz.zeroValue91 rfl rfl ?_)
 intro b8 w8 hzl8 hzr8 _ hb8 hE8
 have hne_b1_b8 : b1 ≠ b8 := by have := hb1.lt; omega
 have hqb_b8 := Nat.le_trans hszq hzl8
 have hbs_b8 : w.heap.size ≤ b8 := Nat.le_trans hsz hzl8
 replace hB := below_ext hB hE8 hsz
 replace hb1 := hb1.ext hE8
 replace hBE := below_ext hBE hE8 hBE.size
 replace hszq := Nat.le_trans hszq hE8.size
 replace hsz := Nat.le_trans hsz hE8.size
 refine l_o (o_store_all (cs' := H.map vint) Tryz.sizeOf91 rfl rfl hb8 (rfl) (by rw [List.length_map]; exact hEH.len) (all_one_map _ _ (fun _ => rfl)) rfl ?_)
 intro w9 hz9 hb8 hG9
 replace hB := below_upd hB hG9 hsz (by omega)
 replace hsz : w.heap.size ≤ w9.heap.size := by rw [hz9]; exact hsz
 replace hb1 := hb1.upd hG9 (by omega)
 replace hBE := below_upd hBE hG9 hBE.size (by omega)
 replace hszq := Nat.le_trans hszq hG9.size
 refine l_nil (r_forget [(4, .pointer _), (10, .pointer _), (12, .slice _ _ _), (13, .pointer _)] ⟨rfl, rfl, rfl, rfl, trivial⟩ (fun e10 => (r_seq (r_seq ?_))))
 have hlH := hEH.len
 refine r_region' (l_q (q_fieldAddr (o' := 0) rfl fld52_0 rfl) (l_q (q_load Tryz.isAgg47 rfl ((hb1.has (o := 0) rfl)) rfl) (l_q (q_len rfl Tryz.underlying47 rfl rfl) ?_)))
 have hr11 := row_take6 (n := sl.length) hb8 (by omega) (by rw [List.length_map]; exact hEH.len)
 refine l_q ((q_slice_arr_hi (hi := (sl.length : Int)) Tryz.underlying91 Tryz.sizeOf3 rfl rfl (by omega) (by decide) rfl).cast (slice_len6 (n := sl.length) (by rw [List.length_map]; exact hEH.len) (by omega))) (l_q (q_len rfl Tryz.underlying31 rfl rfl) (l_q (qmi rfl rfl) (l_nil (r_block ?_))))
 have hk3 := hk2.ext (Ext.of_below hBE)
 have hlH := hEH.len
 have hlt : (H.take sl.length).length = sl.length := by rw [List.length_take]; omega
 have hBF := Below.refl w9.heap.size w9
 have hsz_hBF : w.heap.size ≤ w9.heap.size := hsz
 have hlt_hBF_b1 := hb1.lt
 have hlt_hBF_b8 := hb8.lt
 refine r_rounds (α := Nat × (Option Addr) × Nat × (List Int)) (fun ⟨k, oa, oc, X⟩ e wl => Knows e [(10, ptr wb 0), (12, .slice oa X.length oc), (37, .slice (some ⟨b8, 0, none⟩) (((H).take sl.length).length) 6), (38, vint (((H).take sl.length).length : Int)), (39, vint (k : Int))] ∧ (k ≤ sl.length) ∧ (X = ((H.take sl.length).take k).map (lateF ul.length)) ∧ (X.length = k) ∧ (wl.ownsRow w9.heap.size 3 1 (.slice oa X.length oc) X.length (X.map vint)) ∧ (Below w9.heap.size w9 wl) ∧ (w.heap.size ≤ wl.heap.size) ∧ (Below w.heap.size w wl)) (fun ⟨k, oa, oc, X⟩ => sl.length - k) (0, none, 0, []) ?_ ?_
 ·
  exact ⟨⟨rfl, rfl, rfl, rfl, rfl, trivial⟩, (Nat.zero_le _), rfl, rfl, (World.ownsRow_nil _ _ _ _), hBF, hsz, hB⟩
 ·
  rintro ⟨k, oa, oc, X⟩ el12 wl12 ⟨hkn, hk2l, hX, hXl, hco, hBF, hsz, hB⟩ ih12
  obtain ⟨e12, rfl⟩ := knows_env hkn
  refine r_seq (r_region' (l_q (q_lss rfl rfl rfl) (l_nil (r_seq (r_cond rfl (fun hc13 => ?_) (fun hc13 => ?_))))))
  ·
   replace hc13 := dt hc13
   have hks : k < sl.length := by omega
   refine r_skip (r_seq (r_block (r_seq (r_region' ?_))))
   obtain ⟨b14, o14, ha14, hh14⟩ := (hr11.ext (Ext.of_below hBF)).at1 k (((H).take sl.length).getD k 0) (getD_some (by omega))
   refine l_q (q_indexAddr1 Tryz.underlying31 Tryz.sizeOf3 rfl ha14 rfl (by omega) rfl) (l_q (q_load Tryz.isAgg3 rfl (hh14) rfl) (l_q (qai rfl rfl) (l_nil (r_seq (r_seq (r_region' (l_q (qmi rfl rfl) (l_q (q_move (v := .pointer _) rfl rfl) (l_o (o_call Tryz.call28 rfl (rend_ret sa sc sl ra rc rl ka kc kl ua uc ul wb ga gc ms _ (hk3.ext (Ext.of_below hBF))) rfl ?_))))))))))
   rintro _ w15 ⟨rfl, rfl⟩
   refine l_q (q_gtr rfl rfl rfl) (l_nil (r_cond rfl (fun hc16 => ?_) (fun hc16 => ?_)))
   ·
    replace hc16 := dt hc16
    have g46 := hc16
    refine r_region' (l_q (qai rfl rfl) (l_nil (r_region' (l_q (qms rfl rfl) (l_q (qmi rfl rfl) ?_)))))
    have hbl_b1 := (hb1.ext (Ext.of_below hBF)).lt
    have hbl_b8 := (hb8.ext (Ext.of_below hBF)).lt
    have hszf17 := hBF.size
    refine l_o (o_buildSlice (el := 3) (cs := [vint (-1)]) Tryz.underlying31 el3 (by decide) (by kernel_rfl) rfl (by decide) rfl ?_)
    intro b18 w18 hzl18 hzr18 _ hb18 hE18 ho18
    have hne_b1_b18 : b1 ≠ b18 := by have := (hb1.ext (Ext.of_below hBF)).lt; omega
    have hne_b8_b18 : b8 ≠ b18 := by have := (hb8.ext (Ext.of_below hBF)).lt; omega
    have hbs_b18 : w.heap.size ≤ b18 := Nat.le_trans hsz hzl18
    replace hB := below_ext hB hE18 hsz
    replace hBF := below_ext hBF hE18 hBF.size
    replace hco := own_ext hco hE18
    replace hsz := Nat.le_trans hsz hE18.size
    replace ho18 := own_mono ho18 (show w9.heap.size ≤ _ by omega)
    have hbl_b1 := (hb1.ext (Ext.of_below hBF)).lt
    have hbl_b8 := (hb8.ext (Ext.of_below hBF)).lt
    have hszf19 := hBF.size
    refine l_o (o_append_map (f := vint) (X) ([(-1)]) Tryz.underlying31 el3 rfl rfl hco rfl (Row.of_owns ho18) (fun _ => rfl) (by (try simp only [List.length_append, List.length_cons, List.length_nil, List.length_take, List.length_drop, List.length_replicate]); omega) (by omega) rfl ?_)
    intro a20 c20 w20 hz20 ho20 hG20
    replace hB := below_own hB hG20 hco (by omega) hsz
    replace hsz := Nat.le_trans hsz hG20.size
    replace hBF := below_own hBF hG20 hco (by first | exact Nat.le_refl _ | omega) hBF.size
    refine l_q (qas rfl rfl) (l_nil (r_forget [(10, .pointer _), (12, .slice _ _ _), (37, .slice _ _ _), (38, .int _ _), (39, .int _ _)] ⟨rfl, rfl, rfl, rfl, rfl, trivial⟩ (fun e21 => (r_inBlock (r_region' (l_q (q_add rfl rfl (by omega) rfl) (l_q (qmi rfl rfl) (l_nil ?_))))))))
    exact ih12 (k + 1, a20, c20, X ++ [(-1)]) _ _ ⟨⟨rfl, rfl, rfl, rfl, (vint_eq (by omega)), trivial⟩, (by omega), (by rw [hX]; first | exact late_yes (by omega) g46 | exact late_no (by omega) g46), (by rw [List.length_append, hXl]; rfl), ho20, hBF, hsz, hB⟩ (by first | omega | (dsimp only; omega))
   ·
    replace hc16 := dlt hc16
    have g46 := hc16
    refine r_skip (r_region' (l_q (qms rfl rfl) (l_q (qmi rfl rfl) ?_)))
    have hbl_b1 := (hb1.ext (Ext.of_below hBF)).lt
    have hbl_b8 := (hb8.ext (Ext.of_below hBF)).lt
    have hszf22 := hBF.size
    refine l_o (o_buildSlice (el := 3) (cs := [vint (((H).take sl.length).getD k 0)]) Tryz.underlying31 el3 (by decide) (by kernel_rfl) rfl (by decide) rfl ?_)
    intro b23 w23 hzl23 hzr23 _ hb23 hE23 ho23
    have hne_b1_b23 : b1 ≠ b23 := by have := (hb1.ext (Ext.of_below hBF)).lt; omega
    have hne_b8_b23 : b8 ≠ b23 := by have := (hb8.ext (Ext.of_below hBF)).lt; omega
    have hbs_b23 : w.heap.size ≤ b23 := Nat.le_trans hsz hzl23
    replace hB := below_ext hB hE23 hsz
    replace hBF := below_ext hBF hE23 hBF.size
    replace hco := own_ext hco hE23
    replace hsz := Nat.le_trans hsz hE23.size
    replace ho23 := own_mono ho23 (show w9.heap.size ≤ _ by omega)
    have hbl_b1 := (hb1.ext (Ext.of_below hBF)).lt
    have hbl_b8 := (hb8.ext (Ext.of_below hBF)).lt
    have hszf24 := hBF.size
    refine l_o (o_append_map (f := vint) (X) ([((H).take sl.length).getD k 0]) Tryz.underlying31 el3 rfl rfl hco rfl (Row.of_owns ho23) (fun _ => rfl) (by (try simp only [List.length_append, List.length_cons, List.length_nil, List.length_take, List.length_drop, List.length_replicate]); omega) (by omega) rfl ?_)
    intro a25 c25 w25 hz25 ho25 hG25
    replace hB := below_own hB hG25 hco (by omega) hsz
    replace hsz := Nat.le_trans hsz hG25.size
    replace hBF := below_own hBF hG25 hco (by first | exact Nat.le_refl _ | omega) hBF.size
    refine l_q (qas rfl rfl) (l_nil (r_forget [(10, .pointer _), (12, .slice _ _ _), (37, .slice _ _ _), (38, .int _ _), (39, .int _ _)] ⟨rfl, rfl, rfl, rfl, rfl, trivial⟩ (fun e26 => (r_inBlock (r_region' (l_q (q_add rfl rfl (by omega) rfl) (l_q (qmi rfl rfl) (l_nil ?_))))))))
    exact ih12 (k + 1, a25, c25, X ++ [((H).take sl.length).getD k 0]) _ _ ⟨⟨rfl, rfl, rfl, rfl, (vint_eq (by omega)), trivial⟩, (by omega), (by rw [hX]; first | exact late_yes (by omega) g46 | exact late_no (by omega) g46), (by rw [List.length_append, hXl]; rfl), ho25, hBF, hsz, hB⟩ (by first | omega | (dsimp only; omega))
  ·
   replace hc13 := dlt hc13
   refine r_exit rfl (r_seq (r_region' (l_q (qms rfl rfl) (l_q (qas rfl rfl) (l_q (qai rfl rfl) (l_nil (r_ret_ (vs := [.slice _ _ _, .int _ _]) rfl Tryz.func13 rfl (.nil _) ⟨rfl, rfl, trivial⟩ ?_)))))))
   have hke : k = sl.length := by omega
   have hXe : X = (H.take sl.length).map (lateF ul.length) := by rw [hX, List.take_of_length_le (by omega)]
   exact ⟨oa, oc, X, rfl, Row.of_owns hco, by omega, fun b hb hne hc => by rw [hXe]; exact late_fin hEH (by omega) hb hs6 (hDH b hb hc) hne, Ext.of_below hB⟩
end Go.Proofs.YtbikicakdkbcgacGreat
