/- Contracts. -/
import Derived.Test.YtekkdhpgcilpdaaGreatM21
set_option linter.unusedVariables false
set_option linter.unusedSimpArgs false
namespace Go.Proofs.YtekkdhpgcilpdaaGreat
open Go Go.RowKit Go.Gv Go.Fl


set_option maxHeartbeats 1000000 in
theorem maskSees_ret (ka : Option Addr) (kc : Nat) (co : List Sg) (er : Int) (sa : Option Addr) (sc : Nat) (se : List Int) (ja : Option Addr) (jc : Nat) (sl : List SN) (ra : Option Addr) (rc : Nat) (rl : List RC) (zs zb zh zl : Int) (w : World) (hlg : LgAt w ka kc co sa sc se ja jc sl ra rc rl) (hbg : LgBig co er se sl rl) (hzs : 0 ≤ zs ∧ zs ≤ 255) (hzb : 0 ≤ zb ∧ zb ≤ 255) (hzh : 0 ≤ zh ∧ zh ≤ 255) (hzl : 0 ≤ zl ∧ zl ≤ 255) : Ret Tryz.prog 8 [.agg ⟨[.slice ka co.length kc, vint er, .slice sa se.length sc, .slice ja sl.length jc, .slice ra rl.length rc]⟩, .int .u8 zs, .int .u8 zb, .int .u8 zh, .int .u8 zl] w (fun v w' => v = .bool true ∧ Ext w w') := by
 obtain ⟨⟨hcn, hcl⟩, hen, hsn, ⟨hjn, hjl⟩, hrn, hrl⟩ := id hbg
 have hB := Below.refl w.heap.size w
 have hsz : w.heap.size ≤ w.heap.size := Nat.le_refl _
 refine ret_of_runs (args := [_, _, _, _, _]) Tryz.func8 rfl (Nat.le_of_ble_eq_true rfl) (by kernel_rfl) (r_seq (r_region' (l_o (o_boxt rfl rfl rfl ?_))))
 intro b1 w1 hzl1 hzr1 _ hb1 hty_b1 hE1
 have hbs_b1 : w.heap.size ≤ b1 := Nat.le_trans hsz hzl1
 replace hB := below_ext hB hE1 hsz
 replace hsz := Nat.le_trans hsz hE1.size
 refine l_q (qab rfl rfl) (l_nil (r_seq (r_seq (r_region' (l_q (q_load_agg (n := 5) Tryz.isAgg29 Tryz.sizeOf29 rfl ((hb1.cells' (cs' := [_, _, _, _, _]) 0 5 rfl)) rfl rfl) (l_o (o_call Tryz.call34 rfl (ready6_ret ka kc co er sa sc se ja jc sl ra rc rl _ (hlg.below hB) hbg) rfl ?_)))))))
 rintro _ w2 ⟨bb2, rfl, hrdy, hE2⟩
 replace hB := below_ext hB hE2 hsz
 replace hb1 := hb1.ext hE2
 replace hty_b1 := hty_b1.ext hE2
 replace hsz := Nat.le_trans hsz hE2.size
 refine l_q (q_not rfl rfl) (l_nil (r_cond rfl (fun hc3 => ?_) (fun hc3 => ?_)))
 ·
  replace hc3 := nt hc3
  refine r_seq (r_region' (l_o (o_call Tryz.call18 rfl (awake6_ret _) rfl ?_)))
  rintro _ w4 ⟨rfl, hE4⟩
  replace hB := below_ext hB hE4 hsz
  replace hb1 := hb1.ext hE4
  replace hty_b1 := hty_b1.ext hE4
  replace hsz := Nat.le_trans hsz hE4.size
  refine l_q (qab rfl rfl) (l_nil (r_forget [(10, .bool _)] ⟨rfl, trivial⟩ (fun e5 => (r_ret_ (vs := [.bool _]) rfl Tryz.func8 rfl (.nil _) ⟨rfl, trivial⟩ ?_))))
  exact ⟨rfl, Ext.of_below hB⟩
 ·
  replace hc3 := nf hc3
  have hok := hrdy (by simpa using hc3)
  have hs1 : 1 ≤ se.length := (lg_ok hok).1.1
  have hhr : hourB (zh % 24) = true := hour_yes (by omega)
  have hhl : hourB (min 23 (zh % 24 + zl % 6)) = true := hour_yes (by omega)
  have hh23 : hourB 23 = true := rfl
  refine r_skip (r_seq (r_ifj (α := Nat × Nat) (fun ⟨bx, bz⟩ e wl => Knows e [(1, .int .u8 zs), (2, .int .u8 zb), (3, .int .u8 zh), (4, .int .u8 zl), (5, ptr b1 0), (11, ptr bx 0), (12, ptr bz 0)] ∧ (w.heap.size ≤ bx) ∧ (w.heap.size ≤ bz) ∧ (b1 ≠ bx) ∧ (b1 ≠ bz) ∧ (bx ≠ bz) ∧ (Blk wl bx [.slice ka co.length kc, vint er, .slice sa se.length sc, .slice ja sl.length jc, .slice ra rl.length rc]) ∧ (Blk wl bz [.slice ka co.length kc, vint er, .slice sa se.length sc, .slice ja sl.length jc, .slice ra rl.length rc]) ∧ (TyAt wl bx 29) ∧ (TyAt wl bz 29) ∧ (Blk wl b1 [.slice ka co.length kc, vint er, .slice sa se.length sc, .slice ja sl.length jc, .slice ra rl.length rc]) ∧ (TyAt wl b1 29) ∧ (w.heap.size ≤ wl.heap.size) ∧ (Below w.heap.size w wl)) ?_ ?_))
  ·
   rintro ⟨bx, bz⟩ el6 wl6 ⟨hkn, hbs_bx, hbs_bz, hne_b1_bx, hne_b1_bz, hne_bx_bz, hbx, hbz, hty_bx, hty_bz, hb1, hty_b1, hsz, hB⟩
   obtain ⟨e6, rfl⟩ := knows_env hkn
   refine r_seq (r_draw ext_refl' ext_trans' [0, 1, 3, 4, 2, 6, 5, 7, 8, 9] [2, 5, 7, 9, 1007, 1009] 8 (by kernel_rfl) (by kernel_rfl) ?_)
   intro w7 _ hE7
   replace hB := below_ext hB hE7 hsz
   replace hb1 := hb1.ext hE7
   replace hty_b1 := hty_b1.ext hE7
   replace hbx := hbx.ext hE7
   replace hbz := hbz.ext hE7
   replace hty_bx := hty_bx.ext hE7
   replace hty_bz := hty_bz.ext hE7
   replace hsz := Nat.le_trans hsz hE7.size
   refine m_q rfl rfl (fun w' hC' => q_fieldAddr (o' := 2) rfl fld29_2 rfl) (m_q rfl rfl (fun w' hC' => q_load Tryz.isAgg25 rfl (((hb1.has (o := 2) rfl).ext hC')) rfl) (m_q rfl rfl (fun w' hC' => q_fieldAddr (o' := 2) rfl fld29_2 rfl) (m_q rfl rfl (fun w' hC' => q_load Tryz.isAgg25 rfl (((hb1.has (o := 2) rfl).ext hC')) rfl) (m_o rfl rfl (o_call Tryz.call39 rfl (list6_ret _ _ se _ (hlg.rse.below hB) (by omega)) rfl ?_)))))
   rintro _ w8 ⟨xa, xc, rfl, hox, hE8⟩
   replace hox := own_mono hox (show w.heap.size ≤ _ by omega)
   refine ⟨hE8, ?_⟩
   replace hB := below_ext hB hE8 hsz
   replace hb1 := hb1.ext hE8
   replace hty_b1 := hty_b1.ext hE8
   replace hbx := hbx.ext hE8
   replace hbz := hbz.ext hE8
   replace hty_bx := hty_bx.ext hE8
   replace hty_bz := hty_bz.ext hE8
   replace hsz := Nat.le_trans hsz hE8.size
   refine m_q rfl rfl (fun w' hC' => q_fieldAddr (o' := 2) rfl fld29_2 rfl) ?_
   have hltx : ∀ g, (Value.slice xa se.length xc).ownBlock = some g → g < w8.heap.size := fun g hg => (hox.lt g hg).2
   have hW2s : w.heap.size ≤ w8.heap.size := hsz
   refine m_o rfl rfl (o_call Tryz.call39 rfl (list6_ret _ _ se _ (hlg.rse.below hB) (by omega)) rfl ?_)
   rintro _ w9 ⟨ya, yc, rfl, hoy, hE9⟩
   replace hoy := own_mono hoy (show w8.heap.size ≤ _ by omega)
   refine ⟨hE9, ?_⟩
   replace hB := below_ext hB hE9 hsz
   replace hb1 := hb1.ext hE9
   replace hty_b1 := hty_b1.ext hE9
   replace hbx := hbx.ext hE9
   replace hbz := hbz.ext hE9
   replace hty_bx := hty_bx.ext hE9
   replace hty_bz := hty_bz.ext hE9
   replace hox := own_ext hox hE9
   replace hsz := Nat.le_trans hsz hE9.size
   refine m_last rfl rfl rfl (o_storet (vs := [.slice xa se.length xc]) (cs' := [.slice ka co.length kc, vint er, .slice xa se.length xc, .slice ja sl.length jc, .slice ra rl.length rc]) Tryz.sizeOf25 rfl rfl rfl rfl hbx (Nat.le_of_ble_eq_true rfl) rfl rfl ?_)
   intro w10 hz10 hbx hT10 hG10
   replace hB := below_upd hB hG10 hsz (by omega)
   replace hsz : w.heap.size ≤ w10.heap.size := by rw [hz10]; exact hsz
   replace hb1 := hb1.upd hG10 (by omega)
   replace hty_b1 := hty_b1.upd hG10 (by omega)
   replace hbz := hbz.upd hG10 (by omega)
   replace hty_bz := hty_bz.upd hG10 (by omega)
   replace hox := own_ty_upd hox hty_bx hG10 (by decide)
   replace hoy := own_ty_upd hoy hty_bx hG10 (by decide)
   replace hty_bx := hT10 _ hty_bx
   refine m_q rfl rfl (fun w' hC' => q_fieldAddr (o' := 2) rfl fld29_2 rfl) (m_last rfl rfl rfl (o_storet (vs := [.slice ya se.length yc]) (cs' := [.slice ka co.length kc, vint er, .slice ya se.length yc, .slice ja sl.length jc, .slice ra rl.length rc]) Tryz.sizeOf25 rfl rfl rfl rfl hbz (Nat.le_of_ble_eq_true rfl) rfl rfl ?_))
   intro w11 hz11 hbz hT11 hG11
   replace hB := below_upd hB hG11 hsz (by omega)
   replace hsz : w.heap.size ≤ w11.heap.size := by rw [hz11]; exact hsz
   replace hb1 := hb1.upd hG11 (by omega)
   replace hty_b1 := hty_b1.upd hG11 (by omega)
   replace hbx := hbx.upd hG11 (by omega)
   replace hty_bx := hty_bx.upd hG11 (by omega)
   replace hox := own_ty_upd hox hty_bz hG11 (by decide)
   replace hoy := own_ty_upd hoy hty_bz hG11 (by decide)
   replace hty_bz := hT11 _ hty_bz
   refine m_nil (r_seq (r_region' (l_q (qmi rfl rfl) (l_q (q_toInt Tryz.underlying5 Tryz.underlying3 rfl (by omega) rfl) (l_q (q_fieldAddr (o' := 2) rfl fld29_2 rfl) (l_q (q_load Tryz.isAgg25 rfl ((hb1.has (o := 2) rfl)) rfl) (l_q (q_len rfl Tryz.underlying25 rfl rfl) (l_q (q_rem rfl rfl (by omega) rfl) (l_q (qai rfl rfl) (l_nil (r_forget [(2, .int _ _), (3, .int _ _), (4, .int _ _), (5, .pointer _), (11, .pointer _), (12, .pointer _), (13, .int _ _)] ⟨rfl, rfl, rfl, rfl, rfl, rfl, rfl, trivial⟩ (fun e12 => ?_))))))))))))
   have hq1 := Int.emod_nonneg zs (show (se.length : Int) ≠ 0 by omega)
   have hq2 := Int.emod_lt_of_pos zs (show (0 : Int) < se.length by omega)
   obtain ⟨kn, hkn⟩ : ∃ kn : Nat, zs % (se.length : Int) = (kn : Int) := ⟨_, (Int.toNat_of_nonneg hq1).symm⟩
   have hks : kn < se.length := by omega
   refine r_forget [(2, .int _ _), (3, .int _ _), (4, .int _ _), (5, .pointer _), (11, .pointer _), (12, .pointer _), (13, vint (kn : Int))] ⟨rfl, rfl, rfl, rfl, rfl, rfl, vint_eq hkn, trivial⟩ (fun e13 => (r_seq ?_))
   refine r_ifj (α := (List Int)) (fun X e wl => Knows e [(2, .int .u8 zb), (3, .int .u8 zh), (4, .int .u8 zl), (5, ptr b1 0), (11, ptr bx 0), (12, ptr bz 0), (13, vint (kn : Int))] ∧ (X = if se.getD kn 0 < 0 then se.set kn (zb % 24) else se) ∧ (wl.ownsRow w.heap.size 3 1 (.slice xa se.length xc) se.length ((X).map vint)) ∧ (Blk wl b1 [.slice ka co.length kc, vint er, .slice sa se.length sc, .slice ja sl.length jc, .slice ra rl.length rc]) ∧ (TyAt wl b1 29) ∧ (Blk wl bx [.slice ka co.length kc, vint er, .slice xa se.length xc, .slice ja sl.length jc, .slice ra rl.length rc]) ∧ (Blk wl bz [.slice ka co.length kc, vint er, .slice ya se.length yc, .slice ja sl.length jc, .slice ra rl.length rc]) ∧ (TyAt wl bx 29) ∧ (TyAt wl bz 29) ∧ (wl.ownsRow w8.heap.size 3 1 (.slice ya se.length yc) se.length ((se).map vint)) ∧ (w.heap.size ≤ wl.heap.size) ∧ (Below w.heap.size w wl)) ?_ ?_
   ·
    rintro X el14 wl14 ⟨hkn, hX, hox, hb1, hty_b1, hbx, hbz, hty_bx, hty_bz, hoy, hsz, hB⟩
    obtain ⟨e14, rfl⟩ := knows_env hkn
    obtain ⟨hXr, hXl⟩ := see_x hok hks hzb.1 hX
    refine r_seq (r_draw ext_refl' ext_trans' [0, 1, 2, 3, 4, 5, 6, 7, 8, 9, 10, 11, 12, 13, 14] [14, 1014] 8 (by kernel_rfl) (by kernel_rfl) ?_)
    intro w15 _ hE15
    replace hB := below_ext hB hE15 hsz
    replace hb1 := hb1.ext hE15
    replace hty_b1 := hty_b1.ext hE15
    replace hbx := hbx.ext hE15
    replace hbz := hbz.ext hE15
    replace hty_bx := hty_bx.ext hE15
    replace hty_bz := hty_bz.ext hE15
    replace hox := own_ext hox hE15
    replace hoy := own_ext hoy hE15
    replace hsz := Nat.le_trans hsz hE15.size
    refine m_q rfl rfl (fun w' hC' => q_fieldAddr (o' := 2) rfl fld29_2 rfl) (m_q rfl rfl (fun w' hC' => q_load Tryz.isAgg25 rfl (((hbx.has (o := 2) rfl).ext hC')) rfl) (m_q rfl rfl (fun w' hC' => qmi rfl rfl) (m_q rfl rfl (fun w' hC' => q_fieldAddr (o' := 2) rfl fld29_2 rfl) (m_q rfl rfl (fun w' hC' => q_load Tryz.isAgg25 rfl (((hbx.has (o := 2) rfl).ext hC')) rfl) (m_q rfl rfl (fun w' hC' => qmi rfl rfl) ?_)))))
    obtain ⟨b16, o16, ha16, hh16⟩ := (Row.of_owns hox).at1 kn ((X).getD kn 0) (getD_some (by omega))
    refine m_q rfl rfl (fun w' hC' => q_indexAddr1 Tryz.underlying25 Tryz.sizeOf3 rfl ha16 rfl (by omega) rfl) (m_q rfl rfl (fun w' hC' => q_load Tryz.isAgg3 rfl ((hh16.ext hC')) rfl) (m_q rfl rfl (fun w' hC' => qmi rfl rfl) (m_q rfl rfl (fun w' hC' => q_toInt Tryz.underlying5 Tryz.underlying3 rfl (by omega) rfl) (m_q rfl rfl (fun w' hC' => q_rem rfl rfl (by omega) rfl) (m_q rfl rfl (fun w' hC' => q_sub rfl rfl (by omega) rfl) (m_q rfl rfl (fun w' hC' => q_max rfl rfl rfl) ?_))))))
    obtain ⟨b17, o17, ha17, hh17⟩ := (Row.of_owns hox).at1 kn ((X).getD kn 0) (getD_some (by omega))
    refine m_q rfl rfl (fun w' hC' => q_indexAddr1 Tryz.underlying25 Tryz.sizeOf3 rfl ha17 rfl (by omega) rfl) (m_last rfl rfl rfl (o_store_own (f := vint) X kn (max 0 (((X).getD kn 0) - (zb % 5))) Tryz.sizeOf3 rfl ha17 rfl rfl (fun _ => rfl) hox (by omega) rfl ?_))
    intro w18 hz18 ho18 hG18
    replace hB := below_own hB hG18 hox (by omega) hsz
    replace hsz := Nat.le_trans hsz hG18.size
    replace hb1 := hb1.step hG18 (own_ty_ne hox hty_b1 (by decide))
    replace hbx := hbx.step hG18 (own_ty_ne hox hty_bx (by decide))
    replace hbz := hbz.step hG18 (own_ty_ne hox hty_bz (by decide))
    replace hoy := own_apart2 hoy hltx hG18
    replace hty_b1 := TyAt.own hty_b1 hox hG18 (by decide)
    replace hty_bx := TyAt.own hty_bx hox hG18 (by decide)
    replace hty_bz := TyAt.own hty_bz hox hG18 (by decide)
    replace hox := ho18
    have hls18 : ((X).set kn (max 0 (((X).getD kn 0) - (zb % 5)))).length = (X).length := List.length_set
    refine m_nil (r_forget [(3, .int _ _), (4, .int _ _), (5, .pointer _), (11, .pointer _), (12, .pointer _)] ⟨rfl, rfl, rfl, rfl, rfl, trivial⟩ (fun e19 => (r_seq (r_seq ?_))))
    obtain ⟨SE, hSE⟩ : ∃ SE, SE = X.set kn (max 0 (X.getD kn 0 - zb % 5)) := ⟨_, rfl⟩
    obtain ⟨hup, hokx, hSl⟩ := see_up hok hks hzb.1 hX hSE
    rw [← hSE] at hox
    rw [← hSl] at hox hbx hltx
    refine r_region' (l_q (qai rfl rfl) (l_nil (r_block ?_)))
    refine r_rounds (α := Nat × (List Int)) (fun ⟨i, Y⟩ e wl => Knows e [(3, .int .u8 zh), (4, .int .u8 zl), (5, ptr b1 0), (11, ptr bx 0), (12, ptr bz 0), (14, vint (i : Int))] ∧ (i ≤ se.length) ∧ (Y = List.replicate i (-1) ++ se.drop i) ∧ (Y.length = se.length) ∧ (wl.ownsRow w8.heap.size 3 1 (.slice ya se.length yc) se.length ((Y).map vint)) ∧ (Blk wl bz [.slice ka co.length kc, vint er, .slice ya se.length yc, .slice ja sl.length jc, .slice ra rl.length rc]) ∧ (Blk wl b1 [.slice ka co.length kc, vint er, .slice sa se.length sc, .slice ja sl.length jc, .slice ra rl.length rc]) ∧ (TyAt wl b1 29) ∧ (Blk wl bx [.slice ka co.length kc, vint er, .slice xa SE.length xc, .slice ja sl.length jc, .slice ra rl.length rc]) ∧ (TyAt wl bx 29) ∧ (TyAt wl bz 29) ∧ (wl.ownsRow w.heap.size 3 1 (.slice xa SE.length xc) SE.length ((SE).map vint)) ∧ (w.heap.size ≤ wl.heap.size) ∧ (Below w.heap.size w wl)) (fun ⟨i, Y⟩ => se.length - i) (0, se) ?_ ?_
    ·
     exact ⟨⟨rfl, rfl, rfl, rfl, rfl, rfl, trivial⟩, (Nat.zero_le _), rfl, rfl, hoy, hbz, hb1, hty_b1, hbx, hty_bx, hty_bz, hox, hsz, hB⟩
    ·
     rintro ⟨i, Y⟩ el20 wl20 ⟨hkn, hi, hY, hYl, hoy, hbz, hb1, hty_b1, hbx, hty_bx, hty_bz, hox, hsz, hB⟩ ih20
     obtain ⟨e20, rfl⟩ := knows_env hkn
     refine r_seq (r_seq (r_region' (l_q (qmi rfl rfl) (l_q (q_fieldAddr (o' := 2) rfl fld29_2 rfl) (l_q (q_load Tryz.isAgg25 rfl ((hbz.has (o := 2) rfl)) rfl) (l_q (q_len rfl Tryz.underlying25 rfl rfl) (l_q (q_lss rfl rfl rfl) (l_nil (r_cond rfl (fun hc21 => ?_) (fun hc21 => ?_))))))))))
     ·
      replace hc21 := dt hc21
      have his : i < se.length := by omega
      refine r_skip (r_seq (r_block (r_region' (l_q (q_fieldAddr (o' := 2) rfl fld29_2 rfl) (l_q (q_load Tryz.isAgg25 rfl ((hbz.has (o := 2) rfl)) rfl) (l_q (qmi rfl rfl) ?_))))))
      obtain ⟨b22, o22, ha22, hh22⟩ := (Row.of_owns hoy).at1 i ((Y).getD i 0) (getD_some (by omega))
      refine l_q (q_indexAddr1 Tryz.underlying25 Tryz.sizeOf3 rfl ha22 rfl (by omega) rfl) (l_o (o_store_own (f := vint) Y i (-1) Tryz.sizeOf3 rfl ha22 rfl rfl (fun _ => rfl) hoy (by omega) rfl ?_))
      intro w23 hz23 ho23 hG23
      replace hB := below_own hB hG23 hoy (by omega) hsz
      replace hsz := Nat.le_trans hsz hG23.size
      replace hb1 := hb1.step hG23 (own_ty_ne hoy hty_b1 (by decide))
      replace hbx := hbx.step hG23 (own_ty_ne hoy hty_bx (by decide))
      replace hbz := hbz.step hG23 (own_ty_ne hoy hty_bz (by decide))
      replace hox := own_apart hox hltx hoy hG23
      replace hty_b1 := TyAt.own hty_b1 hoy hG23 (by decide)
      replace hty_bx := TyAt.own hty_bx hoy hG23 (by decide)
      replace hty_bz := TyAt.own hty_bz hoy hG23 (by decide)
      replace hoy := ho23
      have hls23 : ((Y).set i (-1)).length = (Y).length := List.length_set
      refine l_nil (r_inBlock (r_region' (l_q (qmi rfl rfl) (l_q (q_add rfl rfl (by omega) rfl) (l_q (qai rfl rfl) (l_nil (r_forget [(3, .int _ _), (4, .int _ _), (5, .pointer _), (11, .pointer _), (12, .pointer _), (14, .int _ _)] ⟨rfl, rfl, rfl, rfl, rfl, rfl, trivial⟩ (fun e24 => ?_))))))))
      exact ih20 (i + 1, Y.set i (-1)) _ _ ⟨⟨rfl, rfl, rfl, rfl, rfl, (vint_eq (by omega)), trivial⟩, (by omega), (rep_step his hY), (by rw [List.length_set, hYl]), hoy, hbz, hb1, hty_b1, hbx, hty_bx, hty_bz, hox, hsz, hB⟩ (by first | omega | (dsimp only; omega))
     ·
      replace hc21 := dlt hc21
      refine r_exit rfl (r_seq ?_)
      have hYe : Y = List.replicate se.length (-1) := by rw [hY, show i = se.length by omega, List.drop_length, List.append_nil]
      obtain ⟨hokb, hbt, hbf⟩ := blind_ok hok hYe
      rw [← hYl] at hoy hbz
      refine r_region' (l_q (qmi rfl rfl) (l_q (q_toInt Tryz.underlying5 Tryz.underlying3 rfl (by omega) rfl) (l_q (q_rem rfl rfl (by omega) rfl) (l_q (qai rfl rfl) (l_nil (r_forget [(4, .int _ _), (5, .pointer _), (11, .pointer _), (12, .pointer _), (15, .int _ _)] ⟨rfl, rfl, rfl, rfl, rfl, trivial⟩ (fun e25 => (r_seq (r_region' (l_q (q_load_agg (n := 5) Tryz.isAgg29 Tryz.sizeOf29 rfl ((hb1.cells' (cs' := [_, _, _, _, _]) 0 5 rfl)) rfl rfl) (l_o (o_call Tryz.call20 rfl (log6_ret ka kc co er sa sc se ja jc sl ra rc rl _ (hlg.below hB) hbg) rfl ?_))))))))))))
      rintro _ w26 ⟨qka26, qkc26, qsa26, qsc26, qja26, qjc26, qsl26, qra26, qrc26, rfl, hlg26, hm26, hE26⟩
      replace hB := below_ext hB hE26 hsz
      replace hb1 := hb1.ext hE26
      replace hty_b1 := hty_b1.ext hE26
      replace hbx := hbx.ext hE26
      replace hbz := hbz.ext hE26
      replace hty_bx := hty_bx.ext hE26
      replace hty_bz := hty_bz.ext hE26
      replace hoy := own_ext hoy hE26
      replace hox := own_ext hox hE26
      replace hsz := Nat.le_trans hsz hE26.size
      refine l_q (qmi rfl rfl) ?_
      have hv27 := mHeard_ret qka26 qkc26 co er qsa26 qsc26 se qja26 qjc26 qsl26 qra26 qrc26 rl (zh % 24) w26 hlg26 (big_same hm26 hbg) 
      rw [lg_same hm26] at hv27
      refine l_o (o_call Tryz.call26 rfl (hv27) rfl ?_)
      rintro _ w28 ⟨ta28, tc28, D28, rfl, hrt28, hri28, hD28, hE28⟩
      replace hB := below_ext hB hE28 hsz
      replace hb1 := hb1.ext hE28
      replace hty_b1 := hty_b1.ext hE28
      replace hbx := hbx.ext hE28
      replace hbz := hbz.ext hE28
      replace hty_bx := hty_bx.ext hE28
      replace hty_bz := hty_bz.ext hE28
      replace hoy := own_ext hoy hE28
      replace hox := own_ext hox hE28
      replace hlg26 := hlg26.ext hE28
      replace hsz := Nat.le_trans hsz hE28.size
      refine l_q (q_move (v := .tuple _) rfl rfl) (l_q (q_extract (vs := [_, _]) (v := .slice _ _ _) rfl rfl rfl) (l_q (q_extract (vs := [_, _]) (v := .int _ _) rfl rfl rfl) (l_q (qas rfl rfl) (l_q (qai rfl rfl) (l_nil (r_seq (r_region' (l_q (q_load_agg (n := 5) Tryz.isAgg29 Tryz.sizeOf29 rfl ((hbx.cells' (cs' := [_, _, _, _, _]) 0 5 rfl)) rfl rfl) (l_o (o_call Tryz.call20 rfl (log6_ret ka kc co er xa xc SE ja jc sl ra rc rl _ ⟨(hlg.rco.below hB), (Row.of_owns hox), (hlg.rsl.below hB), (hlg.rslr.below hB), (hlg.rrl.below hB)⟩ (see_big hbg hSl)) rfl ?_))))))))))
      rintro _ w29 ⟨qka29, qkc29, qsa29, qsc29, qja29, qjc29, qsl29, qra29, qrc29, rfl, hlg29, hm29, hE29⟩
      replace hB := below_ext hB hE29 hsz
      replace hb1 := hb1.ext hE29
      replace hty_b1 := hty_b1.ext hE29
      replace hbx := hbx.ext hE29
      replace hbz := hbz.ext hE29
      replace hty_bx := hty_bx.ext hE29
      replace hty_bz := hty_bz.ext hE29
      replace hoy := own_ext hoy hE29
      replace hox := own_ext hox hE29
      replace hlg26 := hlg26.ext hE29
      replace hrt28 := hrt28.ext hE29
      replace hri28 := hri28.ext hE29
      replace hsz := Nat.le_trans hsz hE29.size
      refine l_q (qmi rfl rfl) ?_
      have hv30 := mHeard_ret qka29 qkc29 co er qsa29 qsc29 SE qja29 qjc29 qsl29 qra29 qrc29 rl (zh % 24) w29 hlg29 (big_same hm29 (see_big hbg hSl)) 
      rw [lg_same hm29] at hv30
      refine l_o (o_call Tryz.call26 rfl (hv30) rfl ?_)
      rintro _ w31 ⟨ta31, tc31, D31, rfl, hrt31, hri31, hD31, hE31⟩
      replace hB := below_ext hB hE31 hsz
      replace hb1 := hb1.ext hE31
      replace hty_b1 := hty_b1.ext hE31
      replace hbx := hbx.ext hE31
      replace hbz := hbz.ext hE31
      replace hty_bx := hty_bx.ext hE31
      replace hty_bz := hty_bz.ext hE31
      replace hoy := own_ext hoy hE31
      replace hox := own_ext hox hE31
      replace hlg26 := hlg26.ext hE31
      replace hrt28 := hrt28.ext hE31
      replace hri28 := hri28.ext hE31
      replace hlg29 := hlg29.ext hE31
      replace hsz := Nat.le_trans hsz hE31.size
      refine l_q (q_move (v := .tuple _) rfl rfl) (l_q (q_extract (vs := [_, _]) (v := .slice _ _ _) rfl rfl rfl) (l_q (q_extract (vs := [_, _]) (v := .int _ _) rfl rfl rfl) (l_q (qas rfl rfl) (l_q (qai rfl rfl) (l_nil (r_forget [(4, .int _ _), (5, .pointer _), (11, .pointer _), (12, .pointer _), (15, .int _ _), (16, .slice _ _ _), (17, .int _ _), (18, .slice _ _ _), (19, .int _ _)] ⟨rfl, rfl, rfl, rfl, rfl, rfl, rfl, rfl, rfl, trivial⟩ (fun e32 => (r_seq (r_region' (l_q (q_load_agg (n := 5) Tryz.isAgg29 Tryz.sizeOf29 rfl ((hb1.cells' (cs' := [_, _, _, _, _]) 0 5 rfl)) rfl rfl) (l_o (o_call Tryz.call20 rfl (log6_ret ka kc co er sa sc se ja jc sl ra rc rl _ (hlg.below hB) hbg) rfl ?_))))))))))))
      rintro _ w33 ⟨qka33, qkc33, qsa33, qsc33, qja33, qjc33, qsl33, qra33, qrc33, rfl, hlg33, hm33, hE33⟩
      replace hB := below_ext hB hE33 hsz
      replace hb1 := hb1.ext hE33
      replace hty_b1 := hty_b1.ext hE33
      replace hbx := hbx.ext hE33
      replace hbz := hbz.ext hE33
      replace hty_bx := hty_bx.ext hE33
      replace hty_bz := hty_bz.ext hE33
      replace hoy := own_ext hoy hE33
      replace hox := own_ext hox hE33
      replace hlg26 := hlg26.ext hE33
      replace hrt28 := hrt28.ext hE33
      replace hri28 := hri28.ext hE33
      replace hlg29 := hlg29.ext hE33
      replace hrt31 := hrt31.ext hE33
      replace hri31 := hri31.ext hE33
      replace hsz := Nat.le_trans hsz hE33.size
      refine l_q (qmi rfl rfl) (l_q (qmi rfl rfl) (l_q (q_toInt Tryz.underlying5 Tryz.underlying3 rfl (by omega) rfl) (l_q (q_rem rfl rfl (by omega) rfl) (l_q (q_add rfl rfl (by omega) rfl) (l_q (q_min rfl rfl rfl) ?_)))))
      have hv34 := mHeard_ret qka33 qkc33 co er qsa33 qsc33 se qja33 qjc33 qsl33 qra33 qrc33 rl (min 23 ((zh % 24) + (zl % 6))) w33 hlg33 (big_same hm33 hbg) 
      rw [lg_same hm33] at hv34
      refine l_o (o_call Tryz.call26 rfl (hv34) rfl ?_)
      rintro _ w35 ⟨ta35, tc35, D35, rfl, hrt35, hri35, hD35, hE35⟩
      replace hB := below_ext hB hE35 hsz
      replace hb1 := hb1.ext hE35
      replace hty_b1 := hty_b1.ext hE35
      replace hbx := hbx.ext hE35
      replace hbz := hbz.ext hE35
      replace hty_bx := hty_bx.ext hE35
      replace hty_bz := hty_bz.ext hE35
      replace hoy := own_ext hoy hE35
      replace hox := own_ext hox hE35
      replace hlg26 := hlg26.ext hE35
      replace hrt28 := hrt28.ext hE35
      replace hri28 := hri28.ext hE35
      replace hlg29 := hlg29.ext hE35
      replace hrt31 := hrt31.ext hE35
      replace hri31 := hri31.ext hE35
      replace hlg33 := hlg33.ext hE35
      replace hsz := Nat.le_trans hsz hE35.size
      refine l_q (q_move (v := .tuple _) rfl rfl) (l_q (q_extract (vs := [_, _]) (v := .slice _ _ _) rfl rfl rfl) (l_q (q_extract (vs := [_, _]) (v := .int _ _) rfl rfl rfl) (l_q (qas rfl rfl) (l_q (qai rfl rfl) (l_nil (r_forget [(5, .pointer _), (11, .pointer _), (12, .pointer _), (16, .slice _ _ _), (17, .int _ _), (18, .slice _ _ _), (19, .int _ _), (20, .slice _ _ _), (21, .int _ _)] ⟨rfl, rfl, rfl, rfl, rfl, rfl, rfl, rfl, rfl, trivial⟩ (fun e36 => (r_seq (r_region' (l_q (q_load_agg (n := 5) Tryz.isAgg29 Tryz.sizeOf29 rfl ((hb1.cells' (cs' := [_, _, _, _, _]) 0 5 rfl)) rfl rfl) (l_o (o_call Tryz.call20 rfl (log6_ret ka kc co er sa sc se ja jc sl ra rc rl _ (hlg.below hB) hbg) rfl ?_))))))))))))
      rintro _ w37 ⟨qka37, qkc37, qsa37, qsc37, qja37, qjc37, qsl37, qra37, qrc37, rfl, hlg37, hm37, hE37⟩
      replace hB := below_ext hB hE37 hsz
      replace hb1 := hb1.ext hE37
      replace hty_b1 := hty_b1.ext hE37
      replace hbx := hbx.ext hE37
      replace hbz := hbz.ext hE37
      replace hty_bx := hty_bx.ext hE37
      replace hty_bz := hty_bz.ext hE37
      replace hoy := own_ext hoy hE37
      replace hox := own_ext hox hE37
      replace hlg26 := hlg26.ext hE37
      replace hrt28 := hrt28.ext hE37
      replace hri28 := hri28.ext hE37
      replace hlg29 := hlg29.ext hE37
      replace hrt31 := hrt31.ext hE37
      replace hri31 := hri31.ext hE37
      replace hlg33 := hlg33.ext hE37
      replace hrt35 := hrt35.ext hE37
      replace hri35 := hri35.ext hE37
      replace hsz := Nat.le_trans hsz hE37.size
      have hv38 := leave6_ret qka37 qkc37 co er qsa37 qsc37 se qja37 qjc37 qsl37 qra37 qrc37 rl  w37 hlg37 (big_same hm37 hbg) 
      rw [lg_same hm37] at hv38
      refine l_o (o_call Tryz.call32 rfl (hv38) rfl ?_)
      rintro _ w39 ⟨a39_0, c39_0, rfl, hr39_0, hE39⟩
      replace hB := below_ext hB hE39 hsz
      replace hb1 := hb1.ext hE39
      replace hty_b1 := hty_b1.ext hE39
      replace hbx := hbx.ext hE39
      replace hbz := hbz.ext hE39
      replace hty_bx := hty_bx.ext hE39
      replace hty_bz := hty_bz.ext hE39
      replace hoy := own_ext hoy hE39
      replace hox := own_ext hox hE39
      replace hlg26 := hlg26.ext hE39
      replace hrt28 := hrt28.ext hE39
      replace hri28 := hri28.ext hE39
      replace hlg29 := hlg29.ext hE39
      replace hrt31 := hrt31.ext hE39
      replace hri31 := hri31.ext hE39
      replace hlg33 := hlg33.ext hE39
      replace hrt35 := hrt35.ext hE39
      replace hri35 := hri35.ext hE39
      replace hlg37 := hlg37.ext hE39
      replace hsz := Nat.le_trans hsz hE39.size
      refine l_q (q_move (v := .tuple _) rfl rfl) (l_q (q_extract (vs := [_, _]) (v := .slice _ _ _) rfl rfl rfl) (l_q (q_extract (vs := [_, _]) (v := .int _ _) rfl rfl rfl) (l_q (qas rfl rfl) (l_q (qai rfl rfl) (l_nil (r_seq (r_region' (l_q (q_load_agg (n := 5) Tryz.isAgg29 Tryz.sizeOf29 rfl ((hbx.cells' (cs' := [_, _, _, _, _]) 0 5 rfl)) rfl rfl) (l_o (o_call Tryz.call20 rfl (log6_ret ka kc co er xa xc SE ja jc sl ra rc rl _ ⟨(hlg.rco.below hB), (Row.of_owns hox), (hlg.rsl.below hB), (hlg.rslr.below hB), (hlg.rrl.below hB)⟩ (see_big hbg hSl)) rfl ?_))))))))))
      rintro _ w40 ⟨qka40, qkc40, qsa40, qsc40, qja40, qjc40, qsl40, qra40, qrc40, rfl, hlg40, hm40, hE40⟩
      replace hB := below_ext hB hE40 hsz
      replace hb1 := hb1.ext hE40
      replace hty_b1 := hty_b1.ext hE40
      replace hbx := hbx.ext hE40
      replace hbz := hbz.ext hE40
      replace hty_bx := hty_bx.ext hE40
      replace hty_bz := hty_bz.ext hE40
      replace hoy := own_ext hoy hE40
      replace hox := own_ext hox hE40
      replace hlg26 := hlg26.ext hE40
      replace hrt28 := hrt28.ext hE40
      replace hri28 := hri28.ext hE40
      replace hlg29 := hlg29.ext hE40
      replace hrt31 := hrt31.ext hE40
      replace hri31 := hri31.ext hE40
      replace hlg33 := hlg33.ext hE40
      replace hrt35 := hrt35.ext hE40
      replace hri35 := hri35.ext hE40
      replace hlg37 := hlg37.ext hE40
      replace hr39_0 := hr39_0.ext hE40
      replace hsz := Nat.le_trans hsz hE40.size
      have hv41 := leave6_ret qka40 qkc40 co er qsa40 qsc40 SE qja40 qjc40 qsl40 qra40 qrc40 rl  w40 hlg40 (big_same hm40 (see_big hbg hSl)) 
      rw [lg_same hm40] at hv41
      refine l_o (o_call Tryz.call32 rfl (hv41) rfl ?_)
      rintro _ w42 ⟨a42_0, c42_0, rfl, hr42_0, hE42⟩
      replace hB := below_ext hB hE42 hsz
      replace hb1 := hb1.ext hE42
      replace hty_b1 := hty_b1.ext hE42
      replace hbx := hbx.ext hE42
      replace hbz := hbz.ext hE42
      replace hty_bx := hty_bx.ext hE42
      replace hty_bz := hty_bz.ext hE42
      replace hoy := own_ext hoy hE42
      replace hox := own_ext hox hE42
      replace hlg26 := hlg26.ext hE42
      replace hrt28 := hrt28.ext hE42
      replace hri28 := hri28.ext hE42
      replace hlg29 := hlg29.ext hE42
      replace hrt31 := hrt31.ext hE42
      replace hri31 := hri31.ext hE42
      replace hlg33 := hlg33.ext hE42
      replace hrt35 := hrt35.ext hE42
      replace hri35 := hri35.ext hE42
      replace hlg37 := hlg37.ext hE42
      replace hr39_0 := hr39_0.ext hE42
      replace hlg40 := hlg40.ext hE42
      replace hsz := Nat.le_trans hsz hE42.size
      refine l_q (q_move (v := .tuple _) rfl rfl) (l_q (q_extract (vs := [_, _]) (v := .slice _ _ _) rfl rfl rfl) (l_q (q_extract (vs := [_, _]) (v := .int _ _) rfl rfl rfl) (l_q (qas rfl rfl) (l_q (qai rfl rfl) (l_nil (r_forget [(5, .pointer _), (12, .pointer _), (16, .slice _ _ _), (17, .int _ _), (18, .slice _ _ _), (19, .int _ _), (20, .slice _ _ _), (21, .int _ _), (22, .slice _ _ _), (23, .int _ _), (24, .slice _ _ _), (25, .int _ _)] ⟨rfl, rfl, rfl, rfl, rfl, rfl, rfl, rfl, rfl, rfl, rfl, rfl, trivial⟩ (fun e43 => (r_seq (r_seq ?_)))))))))
      rw [heardM_0 hok hhr] at hD28
      obtain ⟨hl28, hx28⟩ := tx_two hok hD28
      rw [heardM_0 hokx hhr] at hD31
      obtain ⟨hl31, hx31⟩ := tx_two hokx hD31
      rw [heardM_0 hok hhl] at hD35
      obtain ⟨hl35, hx35⟩ := tx_two hok hD35
      have hlv : (leavW (lg co er SE sl rl)).1.length ≤ (leavW (lg co er se sl rl)).1.length := by rw [leav_1 hok, leav_1 hokx]; exact see_leave hup (by have := (lg_ok hok).2.2.1; omega)
      refine r_region' (l_q (qmi rfl rfl) (l_q (q_neq rfl rfl rfl) (l_q (qmb rfl rfl) ?_)))
      have hk44 : (!decide (((heardM (lg co er se sl rl) (zh % 24)).2) = 0)) = false := by rw [heardM_0 hok hhr]; rfl
      refine l_part 132 rfl (fun hx => absurd (hk44.symm.trans hx) (by decide)) (fun _ => (l_q (qmi rfl rfl) (l_q (q_neq rfl rfl rfl) (l_q (q_pick_f (v := .bool _) rfl rfl rfl) (l_q (qmb rfl rfl) ?_)))))
      have hk45 : (!decide (((heardM (lg co er SE sl rl) (zh % 24)).2) = 0)) = false := by rw [heardM_0 hokx hhr]; rfl
      refine l_part 136 rfl (fun hx => absurd (hk45.symm.trans hx) (by decide)) (fun _ => (l_q (qmi rfl rfl) (l_q (q_neq rfl rfl rfl) (l_q (q_pick_f (v := .bool _) rfl rfl rfl) (l_q (qmb rfl rfl) ?_)))))
      have hk46 : (!decide (((heardM (lg co er se sl rl) (min 23 ((zh % 24) + (zl % 6)))).2) = 0)) = false := by rw [heardM_0 hok hhl]; rfl
      refine l_part 140 rfl (fun hx => absurd (hk46.symm.trans hx) (by decide)) (fun _ => (l_q (qmi rfl rfl) (l_q (q_neq rfl rfl rfl) (l_q (q_pick_f (v := .bool _) rfl rfl rfl) (l_q (qmb rfl rfl) ?_)))))
      have hk47 : (!decide (((leavW (lg co er se sl rl)).2) = 0)) = false := by rw [leav_0 hok]; rfl
      refine l_part 144 rfl (fun hx => absurd (hk47.symm.trans hx) (by decide)) (fun _ => (l_q (qmi rfl rfl) (l_q (q_neq rfl rfl rfl) (l_q (q_pick_f (v := .bool _) rfl rfl rfl) (l_q (qmb rfl rfl) ?_)))))
      have hk48 : (!decide (((leavW (lg co er SE sl rl)).2) = 0)) = false := by rw [leav_0 hokx]; rfl
      refine l_part 148 rfl (fun hx => absurd (hk48.symm.trans hx) (by decide)) (fun _ => (l_q (qms rfl rfl) (l_q (qms rfl rfl) (l_o (o_call Tryz.call40 rfl (inside6_ret _ _ D28 _ _ D31 _ hrt28 hri28 (by omega) hx28 hrt31 hri31 (by omega) hx31) rfl ?_)))))
      rintro _ w49 ⟨rfl, hE49⟩
      replace hB := below_ext hB hE49 hsz
      replace hb1 := hb1.ext hE49
      replace hty_b1 := hty_b1.ext hE49
      replace hbx := hbx.ext hE49
      replace hbz := hbz.ext hE49
      replace hty_bx := hty_bx.ext hE49
      replace hty_bz := hty_bz.ext hE49
      replace hoy := own_ext hoy hE49
      replace hox := own_ext hox hE49
      replace hlg26 := hlg26.ext hE49
      replace hrt28 := hrt28.ext hE49
      replace hri28 := hri28.ext hE49
      replace hlg29 := hlg29.ext hE49
      replace hrt31 := hrt31.ext hE49
      replace hri31 := hri31.ext hE49
      replace hlg33 := hlg33.ext hE49
      replace hrt35 := hrt35.ext hE49
      replace hri35 := hri35.ext hE49
      replace hlg37 := hlg37.ext hE49
      replace hr39_0 := hr39_0.ext hE49
      replace hlg40 := hlg40.ext hE49
      replace hr42_0 := hr42_0.ext hE49
      replace hsz := Nat.le_trans hsz hE49.size
      refine l_q (q_not rfl rfl) (l_q (q_pick_f (v := .bool _) rfl rfl rfl) (l_q (qmb rfl rfl) ?_))
      have hk50 : (!(insideB (D28.map (·.xs)) (D31.map (·.xs)))) = false := by rw [see_in hup hD28 hD31]; rfl
      refine l_part 154 rfl (fun hx => absurd (hk50.symm.trans hx) (by decide)) (fun _ => (l_q (qms rfl rfl) (l_q (qms rfl rfl) (l_o (o_call Tryz.call40 rfl (inside6_ret _ _ D28 _ _ D35 _ hrt28 hri28 (by omega) hx28 hrt35 hri35 (by omega) hx35) rfl ?_)))))
      rintro _ w51 ⟨rfl, hE51⟩
      replace hB := below_ext hB hE51 hsz
      replace hb1 := hb1.ext hE51
      replace hty_b1 := hty_b1.ext hE51
      replace hbx := hbx.ext hE51
      replace hbz := hbz.ext hE51
      replace hty_bx := hty_bx.ext hE51
      replace hty_bz := hty_bz.ext hE51
      replace hoy := own_ext hoy hE51
      replace hox := own_ext hox hE51
      replace hlg26 := hlg26.ext hE51
      replace hrt28 := hrt28.ext hE51
      replace hri28 := hri28.ext hE51
      replace hlg29 := hlg29.ext hE51
      replace hrt31 := hrt31.ext hE51
      replace hri31 := hri31.ext hE51
      replace hlg33 := hlg33.ext hE51
      replace hrt35 := hrt35.ext hE51
      replace hri35 := hri35.ext hE51
      replace hlg37 := hlg37.ext hE51
      replace hr39_0 := hr39_0.ext hE51
      replace hlg40 := hlg40.ext hE51
      replace hr42_0 := hr42_0.ext hE51
      replace hsz := Nat.le_trans hsz hE51.size
      refine l_q (q_not rfl rfl) (l_q (q_pick_f (v := .bool _) rfl rfl rfl) (l_q (qmb rfl rfl) ?_))
      have hk52 : (!(insideB (D28.map (·.xs)) (D35.map (·.xs)))) = false := by rw [later_in (by omega) hD28 hD35]; rfl
      refine l_part 160 rfl (fun hx => absurd (hk52.symm.trans hx) (by decide)) (fun _ => (l_q (qms rfl rfl) (l_q (q_len rfl Tryz.underlying25 rfl rfl) (l_q (qms rfl rfl) (l_q (q_len rfl Tryz.underlying25 rfl rfl) (l_q (q_gtr rfl rfl rfl) (l_q (q_pick_f (v := .bool _) rfl rfl rfl) (l_nil (r_forget [(5, .pointer _), (12, .pointer _), (166, .bool _)] ⟨rfl, rfl, rfl, trivial⟩ (fun e53 => ?_))))))))))
      have hk54 : (decide ((((leavW (lg co er se sl rl)).1).length : Int) < (((leavW (lg co er SE sl rl)).1).length : Int))) = false := decide_eq_false (by omega)
      refine r_cond_f ((congrArg Value.bool hk54 : Value.bool _ = _)) (r_skip (r_seq (r_region' (l_q (q_load_agg (n := 5) Tryz.isAgg29 Tryz.sizeOf29 rfl ((hbz.cells' (cs' := [_, _, _, _, _]) 0 5 rfl)) rfl rfl) (l_o (o_call Tryz.call20 rfl (log6_ret ka kc co er ya yc Y ja jc sl ra rc rl _ ⟨(hlg.rco.below hB), (Row.of_owns hoy), (hlg.rsl.below hB), (hlg.rslr.below hB), (hlg.rrl.below hB)⟩ (see_big hbg hYl)) rfl ?_))))))
      rintro _ w55 ⟨qka55, qkc55, qsa55, qsc55, qja55, qjc55, qsl55, qra55, qrc55, rfl, hlg55, hm55, hE55⟩
      replace hB := below_ext hB hE55 hsz
      replace hb1 := hb1.ext hE55
      replace hty_b1 := hty_b1.ext hE55
      replace hbx := hbx.ext hE55
      replace hbz := hbz.ext hE55
      replace hty_bx := hty_bx.ext hE55
      replace hty_bz := hty_bz.ext hE55
      replace hoy := own_ext hoy hE55
      replace hox := own_ext hox hE55
      replace hlg26 := hlg26.ext hE55
      replace hrt28 := hrt28.ext hE55
      replace hri28 := hri28.ext hE55
      replace hlg29 := hlg29.ext hE55
      replace hrt31 := hrt31.ext hE55
      replace hri31 := hri31.ext hE55
      replace hlg33 := hlg33.ext hE55
      replace hrt35 := hrt35.ext hE55
      replace hri35 := hri35.ext hE55
      replace hlg37 := hlg37.ext hE55
      replace hr39_0 := hr39_0.ext hE55
      replace hlg40 := hlg40.ext hE55
      replace hr42_0 := hr42_0.ext hE55
      replace hsz := Nat.le_trans hsz hE55.size
      have hv56 := mHeard_ret qka55 qkc55 co er qsa55 qsc55 Y qja55 qjc55 qsl55 qra55 qrc55 rl 23 w55 hlg55 (big_same hm55 (see_big hbg hYl)) 
      rw [lg_same hm55] at hv56
      refine l_o (o_call Tryz.call26 rfl (hv56) rfl ?_)
      rintro _ w57 ⟨ta57, tc57, D57, rfl, hrt57, hri57, hD57, hE57⟩
      replace hB := below_ext hB hE57 hsz
      replace hb1 := hb1.ext hE57
      replace hty_b1 := hty_b1.ext hE57
      replace hbx := hbx.ext hE57
      replace hbz := hbz.ext hE57
      replace hty_bx := hty_bx.ext hE57
      replace hty_bz := hty_bz.ext hE57
      replace hoy := own_ext hoy hE57
      replace hox := own_ext hox hE57
      replace hlg26 := hlg26.ext hE57
      replace hrt28 := hrt28.ext hE57
      replace hri28 := hri28.ext hE57
      replace hlg29 := hlg29.ext hE57
      replace hrt31 := hrt31.ext hE57
      replace hri31 := hri31.ext hE57
      replace hlg33 := hlg33.ext hE57
      replace hrt35 := hrt35.ext hE57
      replace hri35 := hri35.ext hE57
      replace hlg37 := hlg37.ext hE57
      replace hr39_0 := hr39_0.ext hE57
      replace hlg40 := hlg40.ext hE57
      replace hr42_0 := hr42_0.ext hE57
      replace hlg55 := hlg55.ext hE57
      replace hsz := Nat.le_trans hsz hE57.size
      refine l_q (q_move (v := .tuple _) rfl rfl) (l_q (q_extract (vs := [_, _]) (v := .slice _ _ _) rfl rfl rfl) (l_q (q_extract (vs := [_, _]) (v := .int _ _) rfl rfl rfl) (l_q (qas rfl rfl) (l_q (qai rfl rfl) (l_nil (r_seq (r_seq ?_)))))))
      have hb0 : D57.length = 0 := by have h := congrArg List.length hD57; rw [heardM_0 hokb hh23, hbt, List.length_map] at h; exact h
      refine r_region' (l_q (qmi rfl rfl) (l_q (q_neq rfl rfl rfl) (l_q (qmb rfl rfl) ?_)))
      have hk58 : (!decide (((heardM (lg co er Y sl rl) 23).2) = 0)) = false := by rw [heardM_0 hokb hh23]; rfl
      refine l_part 175 rfl (fun hx => absurd (hk58.symm.trans hx) (by decide)) (fun _ => (l_q (qms rfl rfl) (l_q (q_len rfl Tryz.underlying47 rfl rfl) (l_q (q_neq rfl rfl rfl) (l_q (q_pick_f (v := .bool _) rfl rfl rfl) (l_nil (r_forget [(5, .pointer _), (12, .pointer _), (179, .bool _)] ⟨rfl, rfl, rfl, trivial⟩ (fun e59 => ?_))))))))
      have hk60 : (!decide ((D57.length : Int) = 0)) = false := by rw [decide_eq_true (by omega)]; rfl
      refine r_cond_f ((congrArg Value.bool hk60 : Value.bool _ = _)) (r_skip (r_seq (r_seq (r_region' (l_q (qai rfl rfl) (l_nil (r_block ?_)))))))
      refine r_rounds (α := Nat) (fun c e wl => Knows e [(5, ptr b1 0), (12, ptr bz 0), (28, vint (c : Int))] ∧ (c ≤ rl.length) ∧ (Blk wl b1 [.slice ka co.length kc, vint er, .slice sa se.length sc, .slice ja sl.length jc, .slice ra rl.length rc]) ∧ (TyAt wl b1 29) ∧ (Blk wl bx [.slice ka co.length kc, vint er, .slice xa SE.length xc, .slice ja sl.length jc, .slice ra rl.length rc]) ∧ (Blk wl bz [.slice ka co.length kc, vint er, .slice ya Y.length yc, .slice ja sl.length jc, .slice ra rl.length rc]) ∧ (TyAt wl bx 29) ∧ (TyAt wl bz 29) ∧ (wl.ownsRow w8.heap.size 3 1 (.slice ya Y.length yc) Y.length ((Y).map vint)) ∧ (wl.ownsRow w.heap.size 3 1 (.slice xa SE.length xc) SE.length ((SE).map vint)) ∧ (LgAt wl qka26 qkc26 co qsa26 qsc26 se qja26 qjc26 qsl26 qra26 qrc26 rl) ∧ (Row wl ta28 D28.length tc28 1 (D28.map SV.enc)) ∧ (RowsI wl D28) ∧ (LgAt wl qka29 qkc29 co qsa29 qsc29 SE qja29 qjc29 qsl29 qra29 qrc29 rl) ∧ (Row wl ta31 D31.length tc31 1 (D31.map SV.enc)) ∧ (RowsI wl D31) ∧ (LgAt wl qka33 qkc33 co qsa33 qsc33 se qja33 qjc33 qsl33 qra33 qrc33 rl) ∧ (Row wl ta35 D35.length tc35 1 (D35.map SV.enc)) ∧ (RowsI wl D35) ∧ (LgAt wl qka37 qkc37 co qsa37 qsc37 se qja37 qjc37 qsl37 qra37 qrc37 rl) ∧ (Row wl a39_0 (((leavW (lg co er se sl rl)).1).length) c39_0 1 (((leavW (lg co er se sl rl)).1).map vint)) ∧ (LgAt wl qka40 qkc40 co qsa40 qsc40 SE qja40 qjc40 qsl40 qra40 qrc40 rl) ∧ (Row wl a42_0 (((leavW (lg co er SE sl rl)).1).length) c42_0 1 (((leavW (lg co er SE sl rl)).1).map vint)) ∧ (LgAt wl qka55 qkc55 co qsa55 qsc55 Y qja55 qjc55 qsl55 qra55 qrc55 rl) ∧ (Row wl ta57 D57.length tc57 1 (D57.map SV.enc)) ∧ (RowsI wl D57) ∧ (w.heap.size ≤ wl.heap.size) ∧ (Below w.heap.size w wl)) (fun c => rl.length - c) 0 ?_ ?_
      ·
       exact ⟨⟨rfl, rfl, rfl, trivial⟩, (Nat.zero_le _), hb1, hty_b1, hbx, hbz, hty_bx, hty_bz, hoy, hox, hlg26, hrt28, hri28, hlg29, hrt31, hri31, hlg33, hrt35, hri35, hlg37, hr39_0, hlg40, hr42_0, hlg55, hrt57, hri57, hsz, hB⟩
      ·
       rintro c el61 wl61 ⟨hkn, hkc, hb1, hty_b1, hbx, hbz, hty_bx, hty_bz, hoy, hox, hlg26, hrt28, hri28, hlg29, hrt31, hri31, hlg33, hrt35, hri35, hlg37, hr39_0, hlg40, hr42_0, hlg55, hrt57, hri57, hsz, hB⟩ ih61
       obtain ⟨e61, rfl⟩ := knows_env hkn
       refine r_seq (r_seq (r_region' (l_q (qmi rfl rfl) (l_q (q_fieldAddr (o' := 4) rfl fld29_4 rfl) (l_q (q_load Tryz.isAgg27 rfl ((hb1.has (o := 4) rfl)) rfl) (l_q (q_len rfl Tryz.underlying27 rfl rfl) (l_q (q_lss rfl rfl rfl) (l_nil (r_cond rfl (fun hc62 => ?_) (fun hc62 => ?_))))))))))
       ·
        replace hc62 := dt hc62
        have hcR : c < rl.length := by omega
        have hmk : (maskedM (lg co er Y sl rl) (c : Int)).2 = 7 := by rw [masked_2 hokb (r := c) hcR, if_neg (by rw [hbf]; decide)]
        refine r_skip (r_seq (r_block (r_seq (r_region' (l_q (q_load_agg (n := 5) Tryz.isAgg29 Tryz.sizeOf29 rfl ((hbz.cells' (cs' := [_, _, _, _, _]) 0 5 rfl)) rfl rfl) (l_o (o_call Tryz.call20 rfl (log6_ret ka kc co er ya yc Y ja jc sl ra rc rl _ ⟨(hlg.rco.below hB), (Row.of_owns hoy), (hlg.rsl.below hB), (hlg.rslr.below hB), (hlg.rrl.below hB)⟩ (see_big hbg hYl)) rfl ?_)))))))
        rintro _ w63 ⟨qka63, qkc63, qsa63, qsc63, qja63, qjc63, qsl63, qra63, qrc63, rfl, hlg63, hm63, hE63⟩
        replace hB := below_ext hB hE63 hsz
        replace hb1 := hb1.ext hE63
        replace hty_b1 := hty_b1.ext hE63
        replace hbx := hbx.ext hE63
        replace hbz := hbz.ext hE63
        replace hty_bx := hty_bx.ext hE63
        replace hty_bz := hty_bz.ext hE63
        replace hoy := own_ext hoy hE63
        replace hox := own_ext hox hE63
        replace hlg26 := hlg26.ext hE63
        replace hrt28 := hrt28.ext hE63
        replace hri28 := hri28.ext hE63
        replace hlg29 := hlg29.ext hE63
        replace hrt31 := hrt31.ext hE63
        replace hri31 := hri31.ext hE63
        replace hlg33 := hlg33.ext hE63
        replace hrt35 := hrt35.ext hE63
        replace hri35 := hri35.ext hE63
        replace hlg37 := hlg37.ext hE63
        replace hr39_0 := hr39_0.ext hE63
        replace hlg40 := hlg40.ext hE63
        replace hr42_0 := hr42_0.ext hE63
        replace hlg55 := hlg55.ext hE63
        replace hrt57 := hrt57.ext hE63
        replace hri57 := hri57.ext hE63
        replace hsz := Nat.le_trans hsz hE63.size
        refine l_q (qmi rfl rfl) ?_
        have hv64 := mMasked_ret qka63 qkc63 co er qsa63 qsc63 Y qja63 qjc63 qsl63 qra63 qrc63 rl (c : Int) w63 hlg63 (big_same hm63 (see_big hbg hYl)) 
        rw [lg_same hm63] at hv64
        refine l_o (o_call Tryz.call27 rfl (hv64) rfl ?_)
        rintro _ w65 ⟨a65_0, c65_0, rfl, hr65_0, hE65⟩
        replace hB := below_ext hB hE65 hsz
        replace hb1 := hb1.ext hE65
        replace hty_b1 := hty_b1.ext hE65
        replace hbx := hbx.ext hE65
        replace hbz := hbz.ext hE65
        replace hty_bx := hty_bx.ext hE65
        replace hty_bz := hty_bz.ext hE65
        replace hoy := own_ext hoy hE65
        replace hox := own_ext hox hE65
        replace hlg26 := hlg26.ext hE65
        replace hrt28 := hrt28.ext hE65
        replace hri28 := hri28.ext hE65
        replace hlg29 := hlg29.ext hE65
        replace hrt31 := hrt31.ext hE65
        replace hri31 := hri31.ext hE65
        replace hlg33 := hlg33.ext hE65
        replace hrt35 := hrt35.ext hE65
        replace hri35 := hri35.ext hE65
        replace hlg37 := hlg37.ext hE65
        replace hr39_0 := hr39_0.ext hE65
        replace hlg40 := hlg40.ext hE65
        replace hr42_0 := hr42_0.ext hE65
        replace hlg55 := hlg55.ext hE65
        replace hrt57 := hrt57.ext hE65
        replace hri57 := hri57.ext hE65
        replace hsz := Nat.le_trans hsz hE65.size
        refine l_q (q_move (v := .tuple _) rfl rfl) (l_q (q_extract (vs := [_, _]) (v := .slice _ _ _) rfl rfl rfl) (l_q (q_extract (vs := [_, _]) (v := .int _ _) rfl rfl rfl) (l_q (qas rfl rfl) (l_q (qai rfl rfl) (l_nil (r_forget [(5, .pointer _), (12, .pointer _), (28, .int _ _), (30, .int _ _)] ⟨rfl, rfl, rfl, rfl, trivial⟩ (fun e66 => (r_seq (r_region' (l_q (qmi rfl rfl) (l_q (q_neq rfl rfl rfl) (l_nil ?_))))))))))))
        have hk67 : (!decide (((maskedM (lg co er Y sl rl) (c : Int)).2) = 7)) = false := by rw [hmk]; rfl
        refine r_cond_f ((congrArg Value.bool hk67 : Value.bool _ = _)) (r_skip (r_inBlock (r_region' (l_q (qmi rfl rfl) (l_q (q_add rfl rfl (by omega) rfl) (l_q (qai rfl rfl) (l_nil ?_)))))))
        exact ih61 (c + 1) _ _ ⟨⟨rfl, rfl, (vint_eq (by omega)), trivial⟩, (by omega), hb1, hty_b1, hbx, hbz, hty_bx, hty_bz, hoy, hox, hlg26, hrt28, hri28, hlg29, hrt31, hri31, hlg33, hrt35, hri35, hlg37, hr39_0, hlg40, hr42_0, hlg55, hrt57, hri57, hsz, hB⟩ (by first | omega | (dsimp only; omega))
       ·
        replace hc62 := dlt hc62
        refine r_exit rfl (r_seq (r_region' (l_o (o_call Tryz.call18 rfl (awake6_ret _) rfl ?_))))
        rintro _ w68 ⟨rfl, hE68⟩
        replace hB := below_ext hB hE68 hsz
        replace hb1 := hb1.ext hE68
        replace hty_b1 := hty_b1.ext hE68
        replace hbx := hbx.ext hE68
        replace hbz := hbz.ext hE68
        replace hty_bx := hty_bx.ext hE68
        replace hty_bz := hty_bz.ext hE68
        replace hoy := own_ext hoy hE68
        replace hox := own_ext hox hE68
        replace hsz := Nat.le_trans hsz hE68.size
        refine l_q (qab rfl rfl) (l_nil (r_ret_ (vs := [.bool _]) rfl Tryz.func8 rfl (.nil _) ⟨rfl, trivial⟩ ?_))
        exact ⟨rfl, Ext.of_below hB⟩
   · intro hj14
     refine r_seq (r_region' (l_q (q_fieldAddr (o' := 2) rfl fld29_2 rfl) (l_q (q_load Tryz.isAgg25 rfl ((hbx.has (o := 2) rfl)) rfl) (l_q (qmi rfl rfl) ?_))))
     obtain ⟨b69, o69, ha69, hh69⟩ := (Row.of_owns hox).at1 kn ((se).getD kn 0) (getD_some (by omega))
     refine l_q (q_indexAddr1 Tryz.underlying25 Tryz.sizeOf3 rfl ha69 rfl (by omega) rfl) (l_q (q_load Tryz.isAgg3 rfl (hh69) rfl) (l_q (q_lss rfl rfl rfl) (l_nil (r_cond rfl (fun hc70 => ?_) (fun hc70 => ?_)))))
     ·
      replace hc70 := dt hc70
      have g56 := hc70
      refine r_region' (l_q (q_fieldAddr (o' := 2) rfl fld29_2 rfl) (l_q (q_load Tryz.isAgg25 rfl ((hbx.has (o := 2) rfl)) rfl) (l_q (qmi rfl rfl) (l_q (qmi rfl rfl) (l_q (q_toInt Tryz.underlying5 Tryz.underlying3 rfl (by omega) rfl) (l_q (q_rem rfl rfl (by omega) rfl) ?_))))))
      obtain ⟨b71, o71, ha71, hh71⟩ := (Row.of_owns hox).at1 kn ((se).getD kn 0) (getD_some (by omega))
      refine l_q (q_indexAddr1 Tryz.underlying25 Tryz.sizeOf3 rfl ha71 rfl (by omega) rfl) (l_o (o_store_own (f := vint) se kn (zb % 24) Tryz.sizeOf3 rfl ha71 rfl rfl (fun _ => rfl) hox (by omega) rfl ?_))
      intro w72 hz72 ho72 hG72
      replace hB := below_own hB hG72 hox (by omega) hsz
      replace hsz := Nat.le_trans hsz hG72.size
      replace hb1 := hb1.step hG72 (own_ty_ne hox hty_b1 (by decide))
      replace hbx := hbx.step hG72 (own_ty_ne hox hty_bx (by decide))
      replace hbz := hbz.step hG72 (own_ty_ne hox hty_bz (by decide))
      replace hoy := own_apart2 hoy hltx hG72
      replace hty_b1 := TyAt.own hty_b1 hox hG72 (by decide)
      replace hty_bx := TyAt.own hty_bx hox hG72 (by decide)
      replace hty_bz := TyAt.own hty_bz hox hG72 (by decide)
      replace hox := ho72
      have hls72 : ((se).set kn (zb % 24)).length = (se).length := List.length_set
      refine l_nil (r_forget [(2, .int _ _), (3, .int _ _), (4, .int _ _), (5, .pointer _), (11, .pointer _), (12, .pointer _), (13, .int _ _)] ⟨rfl, rfl, rfl, rfl, rfl, rfl, rfl, trivial⟩ (fun e73 => ?_))
      exact hj14 ((se).set kn (zb % 24)) _ _ ⟨⟨rfl, rfl, rfl, rfl, rfl, rfl, rfl, trivial⟩, (by rw [if_pos g56]), hox, hb1, hty_b1, hbx, hbz, hty_bx, hty_bz, hoy, hsz, hB⟩
     ·
      replace hc70 := dlt hc70
      have g56 := hc70
      refine r_skip ?_
      exact hj14 se _ _ ⟨⟨rfl, rfl, rfl, rfl, rfl, rfl, rfl, trivial⟩, (by rw [if_neg (by omega)]), hox, hb1, hty_b1, hbx, hbz, hty_bx, hty_bz, hoy, hsz, hB⟩
  · intro hj6
    have hszR : w.heap.size ≤ w2.heap.size := hsz
    have hszW : w2.heap.size ≤ w2.heap.size := Nat.le_refl _
    have hltR_b1 := hb1.lt
    refine r_draw3 (Below.refl w2.heap.size) (fun _ _ _ h1 h2 => h1.trans h2) (.op 0 (.op 1 (.fork 2 (.op 3 (.op 4 (.op 5 (.done)))) (.op 3 (.op 2 (.op 4 (.op 5 (.done)))))))) [2, 3, 4, 5] 6 (by kernel_rfl) (by kernel_rfl) ?_
    intro w74 _ hE74
    replace hB := below_ext hB hE74 hsz
    replace hb1 := hb1.ext hE74
    replace hty_b1 := hty_b1.ext hE74
    replace hszW := Nat.le_trans hszW hE74.size
    replace hsz := Nat.le_trans hsz hE74.size
    refine m_q3 rfl rfl (fun w' hC' => q_load_agg (n := 5) Tryz.isAgg29 Tryz.sizeOf29 rfl (((hb1.keep (hC'.block _ hltR_b1)).cells' (cs' := [_, _, _, _, _]) 0 5 rfl)) rfl rfl) (m_q3 rfl rfl (fun w' hC' => q_load_agg (n := 5) Tryz.isAgg29 Tryz.sizeOf29 rfl (((hb1.keep (hC'.block _ hltR_b1)).cells' (cs' := [_, _, _, _, _]) 0 5 rfl)) rfl rfl) (m_fork3 ?_ ?_))
    ·
     refine m_o3 rfl rfl (o_alloct Tryz.zeroValue29 rfl rfl ?_)
     intro b75 w75 hzl75 hzr75 _ hb75 hty_b75 hE75
     refine ⟨(below_ext_of hE75 hszW), ?_⟩
     have hne_b1_b75 : b1 ≠ b75 := by have := hb1.lt; omega
     have hbs_b75 : w.heap.size ≤ b75 := Nat.le_trans hsz hzl75
     have hWp_b75 := hszW
     have hbW_b75 := Nat.le_trans hszW hzl75
     replace hB := below_ext hB hE75 hsz
     replace hb1 := hb1.ext hE75
     replace hty_b1 := hty_b1.ext hE75
     replace hszW := Nat.le_trans hszW hE75.size
     replace hsz := Nat.le_trans hsz hE75.size
     refine m_o3 rfl rfl (o_alloct Tryz.zeroValue29 rfl rfl ?_)
     intro b76 w76 hzl76 hzr76 _ hb76 hty_b76 hE76
     refine ⟨(below_ext_of hE76 hszW), ?_⟩
     have hne_b1_b76 : b1 ≠ b76 := by have := hb1.lt; omega
     have hne_b75_b76 : b75 ≠ b76 := by have := hb75.lt; omega
     have hbs_b76 : w.heap.size ≤ b76 := Nat.le_trans hsz hzl76
     have hWp_b76 := hszW
     have hbW_b76 := Nat.le_trans hszW hzl76
     replace hB := below_ext hB hE76 hsz
     replace hb1 := hb1.ext hE76
     replace hty_b1 := hty_b1.ext hE76
     replace hszW := Nat.le_trans hszW hE76.size
     replace hb75 := hb75.ext hE76
     replace hty_b75 := hty_b75.ext hE76
     replace hsz := Nat.le_trans hsz hE76.size
     refine m_o3 rfl rfl (o_storet (vs := [.slice ka co.length kc, vint er, .slice sa se.length sc, .slice ja sl.length jc, .slice ra rl.length rc]) (cs' := [.slice ka co.length kc, vint er, .slice sa se.length sc, .slice ja sl.length jc, .slice ra rl.length rc]) Tryz.sizeOf29 rfl rfl rfl rfl hb75 (Nat.le_of_ble_eq_true rfl) rfl rfl ?_)
     intro w77 hz77 hb75 hT77 hG77
     refine ⟨(below_upd_of hG77 hbW_b75 hszW), ?_⟩
     replace hB := below_upd hB hG77 hsz (by omega)
     replace hsz : w.heap.size ≤ w77.heap.size := by rw [hz77]; exact hsz
     replace hb1 := hb1.upd hG77 (by omega)
     replace hty_b1 := hty_b1.upd hG77 (by omega)
     replace hszW := Nat.le_trans hszW hG77.size
     replace hb76 := hb76.upd hG77 (by omega)
     replace hty_b76 := hty_b76.upd hG77 (by omega)
     replace hty_b75 := hT77 _ hty_b75
     refine m_o3 rfl rfl (o_storet (vs := [.slice ka co.length kc, vint er, .slice sa se.length sc, .slice ja sl.length jc, .slice ra rl.length rc]) (cs' := [.slice ka co.length kc, vint er, .slice sa se.length sc, .slice ja sl.length jc, .slice ra rl.length rc]) Tryz.sizeOf29 rfl rfl rfl rfl hb76 (Nat.le_of_ble_eq_true rfl) rfl rfl ?_)
     intro w78 hz78 hb76 hT78 hG78
     refine ⟨(below_upd_of hG78 hbW_b76 hszW), ?_⟩
     replace hB := below_upd hB hG78 hsz (by omega)
     replace hsz : w.heap.size ≤ w78.heap.size := by rw [hz78]; exact hsz
     replace hb1 := hb1.upd hG78 (by omega)
     replace hty_b1 := hty_b1.upd hG78 (by omega)
     replace hszW := Nat.le_trans hszW hG78.size
     replace hb75 := hb75.upd hG78 (by omega)
     replace hty_b75 := hty_b75.upd hG78 (by omega)
     replace hty_b76 := hT78 _ hty_b76
     refine m_nil3 ?_
     exact hj6 (b75, b76) _ _ ⟨⟨rfl, rfl, rfl, rfl, rfl, rfl, rfl, trivial⟩, (by omega), (by omega), (by omega), (by omega), (by omega), hb75, hb76, hty_b75, hty_b76, hb1, hty_b1, hsz, hB⟩
    ·
     refine m_o3 rfl rfl (o_alloct Tryz.zeroValue29 rfl rfl ?_)
     intro b79 w79 hzl79 hzr79 _ hb79 hty_b79 hE79
     refine ⟨(below_ext_of hE79 hszW), ?_⟩
     have hne_b1_b79 : b1 ≠ b79 := by have := hb1.lt; omega
     have hbs_b79 : w.heap.size ≤ b79 := Nat.le_trans hsz hzl79
     have hWp_b79 := hszW
     have hbW_b79 := Nat.le_trans hszW hzl79
     replace hB := below_ext hB hE79 hsz
     replace hb1 := hb1.ext hE79
     replace hty_b1 := hty_b1.ext hE79
     replace hszW := Nat.le_trans hszW hE79.size
     replace hsz := Nat.le_trans hsz hE79.size
     refine m_o3 rfl rfl (o_alloct Tryz.zeroValue29 rfl rfl ?_)
     intro b80 w80 hzl80 hzr80 _ hb80 hty_b80 hE80
     refine ⟨(below_ext_of hE80 hszW), ?_⟩
     have hne_b1_b80 : b1 ≠ b80 := by have := hb1.lt; omega
     have hne_b79_b80 : b79 ≠ b80 := by have := hb79.lt; omega
     have hbs_b80 : w.heap.size ≤ b80 := Nat.le_trans hsz hzl80
     have hWp_b80 := hszW
     have hbW_b80 := Nat.le_trans hszW hzl80
     replace hB := below_ext hB hE80 hsz
     replace hb1 := hb1.ext hE80
     replace hty_b1 := hty_b1.ext hE80
     replace hszW := Nat.le_trans hszW hE80.size
     replace hb79 := hb79.ext hE80
     replace hty_b79 := hty_b79.ext hE80
     replace hsz := Nat.le_trans hsz hE80.size
     refine m_o3 rfl rfl (o_storet (vs := [.slice ka co.length kc, vint er, .slice sa se.length sc, .slice ja sl.length jc, .slice ra rl.length rc]) (cs' := [.slice ka co.length kc, vint er, .slice sa se.length sc, .slice ja sl.length jc, .slice ra rl.length rc]) Tryz.sizeOf29 rfl rfl rfl rfl hb80 (Nat.le_of_ble_eq_true rfl) rfl rfl ?_)
     intro w81 hz81 hb80 hT81 hG81
     refine ⟨(below_upd_of hG81 hbW_b80 hszW), ?_⟩
     replace hB := below_upd hB hG81 hsz (by omega)
     replace hsz : w.heap.size ≤ w81.heap.size := by rw [hz81]; exact hsz
     replace hb1 := hb1.upd hG81 (by omega)
     replace hty_b1 := hty_b1.upd hG81 (by omega)
     replace hszW := Nat.le_trans hszW hG81.size
     replace hb79 := hb79.upd hG81 (by omega)
     replace hty_b79 := hty_b79.upd hG81 (by omega)
     replace hty_b80 := hT81 _ hty_b80
     refine m_o3 rfl rfl (o_storet (vs := [.slice ka co.length kc, vint er, .slice sa se.length sc, .slice ja sl.length jc, .slice ra rl.length rc]) (cs' := [.slice ka co.length kc, vint er, .slice sa se.length sc, .slice ja sl.length jc, .slice ra rl.length rc]) Tryz.sizeOf29 rfl rfl rfl rfl hb79 (Nat.le_of_ble_eq_true rfl) rfl rfl ?_)
     intro w82 hz82 hb79 hT82 hG82
     refine ⟨(below_upd_of hG82 hbW_b79 hszW), ?_⟩
     replace hB := below_upd hB hG82 hsz (by omega)
     replace hsz : w.heap.size ≤ w82.heap.size := by rw [hz82]; exact hsz
     replace hb1 := hb1.upd hG82 (by omega)
     replace hty_b1 := hty_b1.upd hG82 (by omega)
     replace hszW := Nat.le_trans hszW hG82.size
     replace hb80 := hb80.upd hG82 (by omega)
     replace hty_b80 := hty_b80.upd hG82 (by omega)
     replace hty_b79 := hT82 _ hty_b79
     refine m_nil3 ?_
     exact hj6 (b80, b79) _ _ ⟨⟨rfl, rfl, rfl, rfl, rfl, rfl, rfl, trivial⟩, (by omega), (by omega), (by omega), (by omega), (by omega), hb80, hb79, hty_b80, hty_b79, hb1, hty_b1, hsz, hB⟩
end Go.Proofs.YtekkdhpgcilpdaaGreat
