/- Contracts. -/
import Derived.Test.YtekkdhpgcilpdaaGreatM22
set_option linter.unusedVariables false
set_option linter.unusedSimpArgs false
namespace Go.Proofs.YtekkdhpgcilpdaaGreat
open Go Go.RowKit Go.Gv Go.Fl

theorem el69 : Elem Tryz.prog 69 (.agg ⟨[vint 0, vint 0, .slice none 0 0]⟩) 3 40 := elem_of (by kernel_rfl) rfl (by decide)
set_option maxHeartbeats 1000000 in
theorem maskOrder_ret (ka : Option Addr) (kc : Nat) (co : List Sg) (er : Int) (sa : Option Addr) (sc : Nat) (se : List Int) (ja : Option Addr) (jc : Nat) (sl : List SN) (ra : Option Addr) (rc : Nat) (rl : List RC) (za zb : Int) (w : World) (hlg : LgAt w ka kc co sa sc se ja jc sl ra rc rl) (hbg : LgBig co er se sl rl) (hza : 0 ≤ za ∧ za ≤ 255) (hzb : 0 ≤ zb ∧ zb ≤ 255) : Ret Tryz.prog 11 [.agg ⟨[.slice ka co.length kc, vint er, .slice sa se.length sc, .slice ja sl.length jc, .slice ra rl.length rc]⟩, .int .u8 za, .int .u8 zb] w (fun v w' => v = .bool true ∧ Ext w w') := by
 obtain ⟨⟨hcn, hcl⟩, hen, hsn, ⟨hjn, hjl⟩, hrn, hrl⟩ := id hbg
 have hB := Below.refl w.heap.size w
 have hsz : w.heap.size ≤ w.heap.size := Nat.le_refl _
 refine ret_of_runs (args := [_, _, _]) Tryz.func11 rfl (Nat.le_of_ble_eq_true rfl) (by kernel_rfl) (r_seq (r_region' (l_o (o_boxt rfl rfl rfl ?_))))
 intro b1 w1 hzl1 hzr1 _ hb1 hty_b1 hE1
 have hbs_b1 : w.heap.size ≤ b1 := Nat.le_trans hsz hzl1
 replace hB := below_ext hB hE1 hsz
 replace hsz := Nat.le_trans hsz hE1.size
 refine l_q (qab rfl rfl) (l_nil (r_seq (r_seq (r_region' (l_q (q_load_agg (n := 5) Tryz.isAgg29 Tryz.sizeOf29 rfl ((hb1.cells' (cs' := [_, _, _, _, _]) 0 5 rfl)) rfl rfl) (l_o (o_call Tryz.call34 rfl (ready6_ret ka kc co er sa sc se ja jc sl ra rc rl _ (hlg.below hB) hbg) rfl ?_)))))))
 rintro _ w2 ⟨bb2, rfl, hrdy, hE2⟩
 replace hB := below_ext hB hE2 hsz
 replace hb1 := hb1.ext hE2
 replace hty_b1 := hty_b1.ext hE2
 replace hsz := Nat.le_trans hsz hE2.size
 refine l_q (q_not rfl rfl) (l_q (qmb rfl rfl) (l_part 22 rfl (fun hc3 => ?_) (fun hc3 => ?_)))
 ·
  replace hc3 := nt hc3
  refine l_q (q_skip rfl) (l_q (q_skip rfl) (l_q (q_skip rfl) (l_q (q_skip rfl) (l_q (q_pick_t (v := .bool _) rfl rfl rfl) (l_q (qmb rfl rfl) (l_q (q_skip rfl) (l_q (q_skip rfl) (l_q (q_skip rfl) (l_q (q_skip rfl) (l_q (q_pick_t (v := .bool _) rfl rfl rfl) (l_nil (r_forget [(1, .int _ _), (2, .int _ _), (3, .pointer _), (33, .bool _)] ⟨rfl, rfl, rfl, rfl, trivial⟩ (fun e4 => (r_cond_t rfl (r_seq (r_region' (l_o (o_call Tryz.call18 rfl (awake6_ret _) rfl ?_))))))))))))))))))
  rintro _ w5 ⟨rfl, hE5⟩
  replace hB := below_ext hB hE5 hsz
  replace hb1 := hb1.ext hE5
  replace hty_b1 := hty_b1.ext hE5
  replace hsz := Nat.le_trans hsz hE5.size
  refine l_q (qab rfl rfl) (l_nil (r_ret_ (vs := [.bool _]) rfl Tryz.func11 rfl (.nil _) ⟨rfl, trivial⟩ ?_))
  exact ⟨rfl, Ext.of_below hB⟩
 ·
  replace hc3 := nf hc3
  have hok := hrdy (by simpa using hc3)
  have hr6 : rl.length ≤ 6 := (lg_ok hok).2.2.1
  refine l_q (q_fieldAddr (o' := 3) rfl fld29_3 rfl) (l_q (q_load Tryz.isAgg26 rfl ((hb1.has (o := 3) rfl)) rfl) (l_q (q_len rfl Tryz.underlying26 rfl rfl) (l_q (q_eql rfl rfl rfl) (l_q (q_pick_f (v := .bool _) rfl rfl rfl) (l_q (qmb rfl rfl) (l_part 28 rfl (fun hc6 => ?_) (fun hc6 => ?_)))))))
  ·
   replace hc6 := dt hc6
   refine l_q (q_skip rfl) (l_q (q_skip rfl) (l_q (q_skip rfl) (l_q (q_skip rfl) (l_q (q_pick_t (v := .bool _) rfl rfl rfl) (l_nil (r_forget [(1, .int _ _), (2, .int _ _), (3, .pointer _), (33, .bool _)] ⟨rfl, rfl, rfl, rfl, trivial⟩ (fun e7 => (r_cond_t rfl (r_seq (r_region' (l_o (o_call Tryz.call18 rfl (awake6_ret _) rfl ?_))))))))))))
   rintro _ w8 ⟨rfl, hE8⟩
   replace hB := below_ext hB hE8 hsz
   replace hb1 := hb1.ext hE8
   replace hty_b1 := hty_b1.ext hE8
   replace hsz := Nat.le_trans hsz hE8.size
   refine l_q (qab rfl rfl) (l_nil (r_ret_ (vs := [.bool _]) rfl Tryz.func11 rfl (.nil _) ⟨rfl, trivial⟩ ?_))
   exact ⟨rfl, Ext.of_below hB⟩
  ·
   replace hc6 := df hc6
   have h28 : 0 < sl.length := by omega
   refine l_q (q_fieldAddr (o' := 4) rfl fld29_4 rfl) (l_q (q_load Tryz.isAgg27 rfl ((hb1.has (o := 4) rfl)) rfl) (l_q (q_len rfl Tryz.underlying27 rfl rfl) (l_q (q_eql rfl rfl rfl) (l_q (q_pick_f (v := .bool _) rfl rfl rfl) (l_nil (r_forget [(1, .int _ _), (2, .int _ _), (3, .pointer _), (33, .bool _)] ⟨rfl, rfl, rfl, rfl, trivial⟩ (fun e9 => (r_cond rfl (fun hc10 => ?_) (fun hc10 => ?_)))))))))
   ·
    replace hc10 := dt hc10
    refine r_seq (r_region' (l_o (o_call Tryz.call18 rfl (awake6_ret _) rfl ?_)))
    rintro _ w11 ⟨rfl, hE11⟩
    replace hB := below_ext hB hE11 hsz
    replace hb1 := hb1.ext hE11
    replace hty_b1 := hty_b1.ext hE11
    replace hsz := Nat.le_trans hsz hE11.size
    refine l_q (qab rfl rfl) (l_nil (r_ret_ (vs := [.bool _]) rfl Tryz.func11 rfl (.nil _) ⟨rfl, trivial⟩ ?_))
    exact ⟨rfl, Ext.of_below hB⟩
   ·
    replace hc10 := df hc10
    have h33 : 0 < rl.length := by omega
    refine r_skip (r_seq (r_ifj (α := Nat × Nat) (fun ⟨bx, bz⟩ e wl => Knows e [(1, .int .u8 za), (2, .int .u8 zb), (3, ptr b1 0), (7, ptr bx 0), (8, ptr bz 0)] ∧ (w.heap.size ≤ bx) ∧ (w.heap.size ≤ bz) ∧ (b1 ≠ bx) ∧ (b1 ≠ bz) ∧ (bx ≠ bz) ∧ (Blk wl bx [.slice ka co.length kc, vint er, .slice sa se.length sc, .slice ja sl.length jc, .slice ra rl.length rc]) ∧ (Blk wl bz [.slice ka co.length kc, vint er, .slice sa se.length sc, .slice ja sl.length jc, .slice ra rl.length rc]) ∧ (TyAt wl bx 29) ∧ (TyAt wl bz 29) ∧ (Blk wl b1 [.slice ka co.length kc, vint er, .slice sa se.length sc, .slice ja sl.length jc, .slice ra rl.length rc]) ∧ (TyAt wl b1 29) ∧ (w.heap.size ≤ wl.heap.size) ∧ (Below w.heap.size w wl)) ?_ ?_))
    ·
     rintro ⟨bx, bz⟩ el12 wl12 ⟨hkn, hbs_bx, hbs_bz, hne_b1_bx, hne_b1_bz, hne_bx_bz, hbx, hbz, hty_bx, hty_bz, hb1, hty_b1, hsz, hB⟩
     obtain ⟨e12, rfl⟩ := knows_env hkn
     refine r_seq (r_draw ext_refl' ext_trans' [0, 1, 2, 3, 4, 5, 6, 7, 8, 9, 10, 11, 12, 13] [] 14 (by kernel_rfl) (by kernel_rfl) ?_)
     intro w13 _ hE13
     replace hB := below_ext hB hE13 hsz
     replace hb1 := hb1.ext hE13
     replace hty_b1 := hty_b1.ext hE13
     replace hbx := hbx.ext hE13
     replace hbz := hbz.ext hE13
     replace hty_bx := hty_bx.ext hE13
     replace hty_bz := hty_bz.ext hE13
     replace hsz := Nat.le_trans hsz hE13.size
     refine m_q rfl rfl (fun w' hC' => qmi rfl rfl) (m_q rfl rfl (fun w' hC' => q_toInt Tryz.underlying5 Tryz.underlying3 rfl (by omega) rfl) (m_q rfl rfl (fun w' hC' => q_fieldAddr (o' := 3) rfl fld29_3 rfl) (m_q rfl rfl (fun w' hC' => q_load Tryz.isAgg26 rfl (((hb1.has (o := 3) rfl).ext hC')) rfl) (m_q rfl rfl (fun w' hC' => q_len rfl Tryz.underlying26 rfl rfl) (m_q rfl rfl (fun w' hC' => q_rem rfl rfl (by omega) rfl) (m_q rfl rfl (fun w' hC' => qmi rfl rfl) (m_q rfl rfl (fun w' hC' => q_toInt Tryz.underlying5 Tryz.underlying3 rfl (by omega) rfl) (m_q rfl rfl (fun w' hC' => q_fieldAddr (o' := 4) rfl fld29_4 rfl) (m_q rfl rfl (fun w' hC' => q_load Tryz.isAgg27 rfl (((hb1.has (o := 4) rfl).ext hC')) rfl) (m_q rfl rfl (fun w' hC' => q_len rfl Tryz.underlying27 rfl rfl) (m_q rfl rfl (fun w' hC' => q_rem rfl rfl (by omega) rfl) (m_q rfl rfl (fun w' hC' => qai rfl rfl) ?_))))))))))))
     refine m_q rfl rfl (fun w' hC' => qai rfl rfl) (m_nil (r_forget [(3, .pointer _), (7, .pointer _), (8, .pointer _), (9, .int _ _), (10, .int _ _)] ⟨rfl, rfl, rfl, rfl, rfl, trivial⟩ (fun e14 => (r_seq ?_))))
     have hq1i := Int.emod_nonneg za (show (sl.length : Int) ≠ 0 by omega)
     have hq2i := Int.emod_lt_of_pos za (show (0 : Int) < sl.length by omega)
     obtain ⟨i, hie⟩ : ∃ i : Nat, za % (sl.length : Int) = (i : Int) := ⟨_, (Int.toNat_of_nonneg hq1i).symm⟩
     have hiS : i < sl.length := by omega
     have hq1k := Int.emod_nonneg zb (show (rl.length : Int) ≠ 0 by omega)
     have hq2k := Int.emod_lt_of_pos zb (show (0 : Int) < rl.length by omega)
     obtain ⟨k, hke⟩ : ∃ k : Nat, zb % (rl.length : Int) = (k : Int) := ⟨_, (Int.toNat_of_nonneg hq1k).symm⟩
     have hkR : k < rl.length := by omega
     refine r_forget [(3, .pointer _), (7, .pointer _), (8, .pointer _), (9, vint (i : Int)), (10, vint (k : Int))] ⟨rfl, rfl, rfl, vint_eq hie, vint_eq hke, trivial⟩ (fun e15 => ?_)
     have hszR : w.heap.size ≤ w13.heap.size := hsz
     have hszW : w13.heap.size ≤ w13.heap.size := Nat.le_refl _
     have hltR_b1 := hb1.lt
     have hltR_bx := hbx.lt
     have hltR_bz := hbz.lt
     refine r_draw3 (Below.refl w13.heap.size) (fun _ _ _ h1 h2 => h1.trans h2) (.op 1 (.op 2 (.op 3 (.op 4 (.op 6 (.op 7 (.op 8 (.op 9 (.op 0 (.op 5 (.op 10 (.op 11 (.op 12 (.done)))))))))))))) [0, 5, 10, 12, 1012] 4 (by kernel_rfl) (by kernel_rfl) ?_
     intro w16 _ hE16
     replace hB := below_ext hB hE16 hsz
     replace hb1 := hb1.ext hE16
     replace hty_b1 := hty_b1.ext hE16
     replace hbx := hbx.ext hE16
     replace hbz := hbz.ext hE16
     replace hty_bx := hty_bx.ext hE16
     replace hty_bz := hty_bz.ext hE16
     replace hszW := Nat.le_trans hszW hE16.size
     replace hsz := Nat.le_trans hsz hE16.size
     refine m_q3 rfl rfl (fun w' hC' => q_fieldAddr (o' := 3) rfl fld29_3 rfl) (m_q3 rfl rfl (fun w' hC' => q_load Tryz.isAgg26 rfl (((hb1.keep (hC'.block _ hltR_b1)).has (o := 3) rfl)) rfl) (m_q3 rfl rfl (fun w' hC' => qmi rfl rfl) ?_))
     obtain ⟨a17, c17, hr17, hv17⟩ := slice_exw_lo SN.len ((i : Int)) hlg.rsl (by omega)
     refine m_q3 rfl rfl (fun w' hC' => (q_slice (lo := (i : Int)) (hi := (sl.length : Int)) Tryz.underlying26 Tryz.sizeOf69 rfl rfl rfl (by omega) hlg.rsl.2.1 rfl).cast hv17) (m_q3 rfl rfl (fun w' hC' => q_fieldAddr (o' := 3) rfl fld29_3 rfl) (m_q3 rfl rfl (fun w' hC' => q_load Tryz.isAgg26 rfl (((hb1.keep (hC'.block _ hltR_b1)).has (o := 3) rfl)) rfl) (m_q3 rfl rfl (fun w' hC' => qmi rfl rfl) ?_)))
     obtain ⟨a18, c18, hr18, hv18⟩ := slice_exw_hi SN.len ((i : Int)) hlg.rsl (by omega)
     refine m_q3 rfl rfl (fun w' hC' => (q_slice (lo := 0) (hi := (i : Int)) Tryz.underlying26 Tryz.sizeOf69 rfl rfl rfl (by omega) hlg.rsl.2.1 rfl).cast hv18) ?_
     have hbl_b1 := hb1.lt
     have hbl_bx := hbx.lt
     have hbl_bz := hbz.lt
     refine m_o3 rfl rfl (o_buildSlice (el := 69) (cs := []) Tryz.underlying26 el69 (by decide) (by kernel_rfl) rfl (by decide) rfl ?_)
     intro b19 w19 hzl19 hzr19 _ hb19 hE19 ho19
     refine ⟨(below_ext_of hE19 hszW), ?_⟩
     have hne_b1_b19 : b1 ≠ b19 := by have := hb1.lt; omega
     have hne_bx_b19 : bx ≠ b19 := by have := hbx.lt; omega
     have hne_bz_b19 : bz ≠ b19 := by have := hbz.lt; omega
     have hbs_b19 : w.heap.size ≤ b19 := Nat.le_trans hsz hzl19
     have hWp_b19 := hszW
     have hbW_b19 := Nat.le_trans hszW hzl19
     replace hB := below_ext hB hE19 hsz
     replace hb1 := hb1.ext hE19
     replace hty_b1 := hty_b1.ext hE19
     replace hbx := hbx.ext hE19
     replace hbz := hbz.ext hE19
     replace hty_bx := hty_bx.ext hE19
     replace hty_bz := hty_bz.ext hE19
     replace hszW := Nat.le_trans hszW hE19.size
     replace hsz := Nat.le_trans hsz hE19.size
     replace ho19 := own_mono ho19 (show w13.heap.size ≤ _ by omega)
     have hbl_b1 := hb1.lt
     have hbl_bx := hbx.lt
     have hbl_bz := hbz.lt
     refine m_o3 rfl rfl (o_append_wide SN.one ([]) (sl.drop i) Tryz.underlying26 el69 rfl rfl ho19 rfl (hr17.below hB) (by (try simp only [List.length_append, List.length_cons, List.length_nil, List.length_take, List.length_drop, List.length_replicate]); omega) (by omega) rfl ?_)
     intro a21 c21 w21 hz21 ho21 hG21
     refine ⟨(below_own_of hG21 ho19 (by omega) hszW), ?_⟩
     replace hB := below_own hB hG21 ho19 (by omega) hsz
     replace hsz := Nat.le_trans hsz hG21.size
     replace hb1 := hb1.step hG21 (own_ty_ne ho19 hty_b1 (by decide))
     replace hbx := hbx.step hG21 (own_ty_ne ho19 hty_bx (by decide))
     replace hbz := hbz.step hG21 (own_ty_ne ho19 hty_bz (by decide))
     replace hszW := Nat.le_trans hszW hG21.size
     replace hty_b1 := TyAt.own hty_b1 ho19 hG21 (by decide)
     replace hty_bx := TyAt.own hty_bx ho19 hG21 (by decide)
     replace hty_bz := TyAt.own hty_bz ho19 hG21 (by decide)
     have hbl_b1 := hb1.lt
     have hbl_bx := hbx.lt
     have hbl_bz := hbz.lt
     refine m_o3 rfl rfl (o_append_wide SN.one ([] ++ (sl.drop i)) (sl.take i) Tryz.underlying26 el69 rfl rfl ho21 rfl (hr18.below hB) (by (try simp only [List.length_append, List.length_cons, List.length_nil, List.length_take, List.length_drop, List.length_replicate]); omega) (by omega) rfl ?_)
     intro a23 c23 w23 hz23 ho23 hG23
     refine ⟨(below_own_of hG23 ho21 (by omega) hszW), ?_⟩
     replace hB := below_own hB hG23 ho21 (by omega) hsz
     replace hsz := Nat.le_trans hsz hG23.size
     replace hb1 := hb1.step hG23 (own_ty_ne ho21 hty_b1 (by decide))
     replace hbx := hbx.step hG23 (own_ty_ne ho21 hty_bx (by decide))
     replace hbz := hbz.step hG23 (own_ty_ne ho21 hty_bz (by decide))
     replace hszW := Nat.le_trans hszW hG23.size
     replace hty_b1 := TyAt.own hty_b1 ho21 hG23 (by decide)
     replace hty_bx := TyAt.own hty_bx ho21 hG23 (by decide)
     replace hty_bz := TyAt.own hty_bz ho21 hG23 (by decide)
     refine m_q3 rfl rfl (fun w' hC' => q_fieldAddr (o' := 3) rfl fld29_3 rfl) (m_last3 rfl rfl rfl (o_storet (vs := [.slice a23 ((([] ++ (sl.drop i)) ++ (sl.take i)).length) c23]) (cs' := [.slice ka co.length kc, vint er, .slice sa se.length sc, .slice a23 ((([] ++ (sl.drop i)) ++ (sl.take i)).length) c23, .slice ra rl.length rc]) Tryz.sizeOf26 rfl rfl rfl rfl hbx (Nat.le_of_ble_eq_true rfl) rfl rfl ?_))
     intro w24 hz24 hbx hT24 hG24
     replace hB := below_upd hB hG24 hsz (by omega)
     replace hsz : w.heap.size ≤ w24.heap.size := by rw [hz24]; exact hsz
     replace hb1 := hb1.upd hG24 (by omega)
     replace hty_b1 := hty_b1.upd hG24 (by omega)
     replace hbz := hbz.upd hG24 (by omega)
     replace hty_bz := hty_bz.upd hG24 (by omega)
     replace hszW := Nat.le_trans hszW hG24.size
     replace ho23 := own_ty_upd ho23 hty_bx hG24 (by decide)
     replace hty_bx := hT24 _ hty_bx
     refine m_nil3 (r_forget [(3, .pointer _), (7, .pointer _), (8, .pointer _), (10, .int _ _)] ⟨rfl, rfl, rfl, rfl, trivial⟩ (fun e25 => (r_seq ?_)))
     have hoJ : w24.ownsRow w13.heap.size 69 3 (.slice a23 ((rotL i sl).length) c23) ((rotL i sl).length) ((rotL i sl).flatMap SN.enc) := ho23
     replace hbx : Blk w24 bx [.slice ka co.length kc, vint er, .slice sa se.length sc, .slice a23 ((rotL i sl).length) c23, .slice ra rl.length rc] := hbx
     have hszR : w.heap.size ≤ w24.heap.size := hsz
     have hszW : w24.heap.size ≤ w24.heap.size := Nat.le_refl _
     have hltR_b1 := hb1.lt
     have hltR_bx := hbx.lt
     have hltR_bz := hbz.lt
     refine r_draw3 (Below.refl w24.heap.size) (fun _ _ _ h1 h2 => h1.trans h2) (.op 1 (.op 2 (.op 3 (.op 4 (.op 6 (.op 7 (.op 8 (.op 9 (.op 0 (.op 5 (.op 10 (.op 11 (.op 12 (.done)))))))))))))) [0, 5, 10, 12, 1012] 4 (by kernel_rfl) (by kernel_rfl) ?_
     intro w26 _ hE26
     replace hB := below_ext hB hE26 hsz
     replace hb1 := hb1.ext hE26
     replace hty_b1 := hty_b1.ext hE26
     replace hbx := hbx.ext hE26
     replace hbz := hbz.ext hE26
     replace hty_bx := hty_bx.ext hE26
     replace hty_bz := hty_bz.ext hE26
     replace hoJ := own_ext hoJ hE26
     replace hszW := Nat.le_trans hszW hE26.size
     replace hsz := Nat.le_trans hsz hE26.size
     refine m_q3 rfl rfl (fun w' hC' => q_fieldAddr (o' := 4) rfl fld29_4 rfl) (m_q3 rfl rfl (fun w' hC' => q_load Tryz.isAgg27 rfl (((hb1.keep (hC'.block _ hltR_b1)).has (o := 4) rfl)) rfl) (m_q3 rfl rfl (fun w' hC' => qmi rfl rfl) ?_))
     obtain ⟨a27, c27, hr27, hv27⟩ := slice_exw_lo RC.len ((k : Int)) hlg.rrl (by omega)
     refine m_q3 rfl rfl (fun w' hC' => (q_slice (lo := (k : Int)) (hi := (rl.length : Int)) Tryz.underlying27 Tryz.sizeOf61 rfl rfl rfl (by omega) hlg.rrl.2.1 rfl).cast hv27) (m_q3 rfl rfl (fun w' hC' => q_fieldAddr (o' := 4) rfl fld29_4 rfl) (m_q3 rfl rfl (fun w' hC' => q_load Tryz.isAgg27 rfl (((hb1.keep (hC'.block _ hltR_b1)).has (o := 4) rfl)) rfl) (m_q3 rfl rfl (fun w' hC' => qmi rfl rfl) ?_)))
     obtain ⟨a28, c28, hr28, hv28⟩ := slice_exw_hi RC.len ((k : Int)) hlg.rrl (by omega)
     refine m_q3 rfl rfl (fun w' hC' => (q_slice (lo := 0) (hi := (k : Int)) Tryz.underlying27 Tryz.sizeOf61 rfl rfl rfl (by omega) hlg.rrl.2.1 rfl).cast hv28) ?_
     have hbl_b1 := hb1.lt
     have hbl_bx := hbx.lt
     have hbl_bz := hbz.lt
     refine m_o3 rfl rfl (o_buildSlice (el := 61) (cs := []) Tryz.underlying27 el61 (by decide) (by kernel_rfl) rfl (by decide) rfl ?_)
     intro b29 w29 hzl29 hzr29 _ hb29 hE29 ho29
     refine ⟨(below_ext_of hE29 hszW), ?_⟩
     have hne_b1_b29 : b1 ≠ b29 := by have := hb1.lt; omega
     have hne_bx_b29 : bx ≠ b29 := by have := hbx.lt; omega
     have hne_bz_b29 : bz ≠ b29 := by have := hbz.lt; omega
     have hbs_b29 : w.heap.size ≤ b29 := Nat.le_trans hsz hzl29
     have hWp_b29 := hszW
     have hbW_b29 := Nat.le_trans hszW hzl29
     replace hB := below_ext hB hE29 hsz
     replace hb1 := hb1.ext hE29
     replace hty_b1 := hty_b1.ext hE29
     replace hbx := hbx.ext hE29
     replace hbz := hbz.ext hE29
     replace hty_bx := hty_bx.ext hE29
     replace hty_bz := hty_bz.ext hE29
     replace hoJ := own_ext hoJ hE29
     replace hszW := Nat.le_trans hszW hE29.size
     replace hsz := Nat.le_trans hsz hE29.size
     replace ho29 := own_mono ho29 (show w24.heap.size ≤ _ by omega)
     have hbl_b1 := hb1.lt
     have hbl_bx := hbx.lt
     have hbl_bz := hbz.lt
     refine m_o3 rfl rfl (o_append_wide RC.one ([]) (rl.drop k) Tryz.underlying27 el61 rfl rfl ho29 rfl (hr27.below hB) (by (try simp only [List.length_append, List.length_cons, List.length_nil, List.length_take, List.length_drop, List.length_replicate]); omega) (by omega) rfl ?_)
     intro a31 c31 w31 hz31 ho31 hG31
     refine ⟨(below_own_of hG31 ho29 (by omega) hszW), ?_⟩
     replace hB := below_own hB hG31 ho29 (by omega) hsz
     replace hsz := Nat.le_trans hsz hG31.size
     replace hb1 := hb1.step hG31 (own_ty_ne ho29 hty_b1 (by decide))
     replace hbx := hbx.step hG31 (own_ty_ne ho29 hty_bx (by decide))
     replace hbz := hbz.step hG31 (own_ty_ne ho29 hty_bz (by decide))
     replace hoJ := own_kept hoJ ho29 (by decide) hG31
     replace hszW := Nat.le_trans hszW hG31.size
     replace hty_b1 := TyAt.own hty_b1 ho29 hG31 (by decide)
     replace hty_bx := TyAt.own hty_bx ho29 hG31 (by decide)
     replace hty_bz := TyAt.own hty_bz ho29 hG31 (by decide)
     have hbl_b1 := hb1.lt
     have hbl_bx := hbx.lt
     have hbl_bz := hbz.lt
     refine m_o3 rfl rfl (o_append_wide RC.one ([] ++ (rl.drop k)) (rl.take k) Tryz.underlying27 el61 rfl rfl ho31 rfl (hr28.below hB) (by (try simp only [List.length_append, List.length_cons, List.length_nil, List.length_take, List.length_drop, List.length_replicate]); omega) (by omega) rfl ?_)
     intro a33 c33 w33 hz33 ho33 hG33
     refine ⟨(below_own_of hG33 ho31 (by omega) hszW), ?_⟩
     replace hB := below_own hB hG33 ho31 (by omega) hsz
     replace hsz := Nat.le_trans hsz hG33.size
     replace hb1 := hb1.step hG33 (own_ty_ne ho31 hty_b1 (by decide))
     replace hbx := hbx.step hG33 (own_ty_ne ho31 hty_bx (by decide))
     replace hbz := hbz.step hG33 (own_ty_ne ho31 hty_bz (by decide))
     replace hoJ := own_kept hoJ ho31 (by decide) hG33
     replace hszW := Nat.le_trans hszW hG33.size
     replace hty_b1 := TyAt.own hty_b1 ho31 hG33 (by decide)
     replace hty_bx := TyAt.own hty_bx ho31 hG33 (by decide)
     replace hty_bz := TyAt.own hty_bz ho31 hG33 (by decide)
     refine m_q3 rfl rfl (fun w' hC' => q_fieldAddr (o' := 4) rfl fld29_4 rfl) (m_last3 rfl rfl rfl (o_storet (vs := [.slice a33 ((([] ++ (rl.drop k)) ++ (rl.take k)).length) c33]) (cs' := [.slice ka co.length kc, vint er, .slice sa se.length sc, .slice ja sl.length jc, .slice a33 ((([] ++ (rl.drop k)) ++ (rl.take k)).length) c33]) Tryz.sizeOf27 rfl rfl rfl rfl hbz (Nat.le_of_ble_eq_true rfl) rfl rfl ?_))
     intro w34 hz34 hbz hT34 hG34
     replace hB := below_upd hB hG34 hsz (by omega)
     replace hsz : w.heap.size ≤ w34.heap.size := by rw [hz34]; exact hsz
     replace hb1 := hb1.upd hG34 (by omega)
     replace hty_b1 := hty_b1.upd hG34 (by omega)
     replace hbx := hbx.upd hG34 (by omega)
     replace hty_bx := hty_bx.upd hG34 (by omega)
     replace hoJ := own_ty_upd hoJ hty_bz hG34 (by decide)
     replace hszW := Nat.le_trans hszW hG34.size
     replace ho33 := own_ty_upd ho33 hty_bz hG34 (by decide)
     replace hty_bz := hT34 _ hty_bz
     refine m_nil3 (r_forget [(3, .pointer _), (7, .pointer _), (8, .pointer _), (10, .int _ _)] ⟨rfl, rfl, rfl, rfl, trivial⟩ (fun e35 => (r_seq ?_)))
     have hoR : w34.ownsRow w24.heap.size 61 3 (.slice a33 ((rotL k rl).length) c33) ((rotL k rl).length) ((rotL k rl).flatMap RC.enc) := ho33
     replace hbz : Blk w34 bz [.slice ka co.length kc, vint er, .slice sa se.length sc, .slice ja sl.length jc, .slice a33 ((rotL k rl).length) c33] := hbz
     have hvx := ord_x hok hiS
     obtain ⟨hvy, hyl, hvg⟩ := ord_y hok hkR
     have hvs : (verdW (lg co er se sl rl)).1.length ≤ rl.length := by
       by_cases hv : (verdW (lg co er se sl rl)).2 = 0
       · rw [(vd_ok hok hv).1]; simp [lgR]
       · rw [(vd_err hok hv).1]; exact Nat.zero_le _
     refine r_region' (l_q (q_load_agg (n := 5) Tryz.isAgg29 Tryz.sizeOf29 rfl ((hb1.cells' (cs' := [_, _, _, _, _]) 0 5 rfl)) rfl rfl) (l_o (o_call Tryz.call20 rfl (log6_ret ka kc co er sa sc se ja jc sl ra rc rl _ (hlg.below hB) hbg) rfl ?_)))
     rintro _ w36 ⟨qka36, qkc36, qsa36, qsc36, qja36, qjc36, qsl36, qra36, qrc36, rfl, hlg36, hm36, hE36⟩
     replace hB := below_ext hB hE36 hsz
     replace hb1 := hb1.ext hE36
     replace hty_b1 := hty_b1.ext hE36
     replace hbx := hbx.ext hE36
     replace hbz := hbz.ext hE36
     replace hty_bx := hty_bx.ext hE36
     replace hty_bz := hty_bz.ext hE36
     replace hoJ := own_ext hoJ hE36
     replace hoR := own_ext hoR hE36
     replace hsz := Nat.le_trans hsz hE36.size
     have hv37 := verdicts6_ret qka36 qkc36 co er qsa36 qsc36 se qja36 qjc36 qsl36 qra36 qrc36 rl  w36 hlg36 (big_same hm36 hbg) 
     rw [lg_same hm36] at hv37
     refine l_o (o_call Tryz.call35 rfl (hv37) rfl ?_)
     rintro _ w38 ⟨a38_0, c38_0, rfl, hr38_0, hE38⟩
     replace hB := below_ext hB hE38 hsz
     replace hb1 := hb1.ext hE38
     replace hty_b1 := hty_b1.ext hE38
     replace hbx := hbx.ext hE38
     replace hbz := hbz.ext hE38
     replace hty_bx := hty_bx.ext hE38
     replace hty_bz := hty_bz.ext hE38
     replace hoJ := own_ext hoJ hE38
     replace hoR := own_ext hoR hE38
     replace hlg36 := hlg36.ext hE38
     replace hsz := Nat.le_trans hsz hE38.size
     refine l_q (q_move (v := .tuple _) rfl rfl) (l_q (q_extract (vs := [_, _]) (v := .slice _ _ _) rfl rfl rfl) (l_q (q_extract (vs := [_, _]) (v := .int _ _) rfl rfl rfl) (l_q (qas rfl rfl) (l_q (qai rfl rfl) (l_nil (r_seq (r_region' (l_q (q_load_agg (n := 5) Tryz.isAgg29 Tryz.sizeOf29 rfl ((hbx.cells' (cs' := [_, _, _, _, _]) 0 5 rfl)) rfl rfl) (l_o (o_call Tryz.call20 rfl (log6_ret ka kc co er sa sc se a23 c23 (rotL i sl) ra rc rl _ ⟨(hlg.rco.below hB), (hlg.rse.below hB), (Row.of_owns hoJ), (rotS (hlg.rslr.below hB)), (hlg.rrl.below hB)⟩ (rotJ_big hbg)) rfl ?_))))))))))
     rintro _ w39 ⟨qka39, qkc39, qsa39, qsc39, qja39, qjc39, qsl39, qra39, qrc39, rfl, hlg39, hm39, hE39⟩
     replace hB := below_ext hB hE39 hsz
     replace hb1 := hb1.ext hE39
     replace hty_b1 := hty_b1.ext hE39
     replace hbx := hbx.ext hE39
     replace hbz := hbz.ext hE39
     replace hty_bx := hty_bx.ext hE39
     replace hty_bz := hty_bz.ext hE39
     replace hoJ := own_ext hoJ hE39
     replace hoR := own_ext hoR hE39
     replace hlg36 := hlg36.ext hE39
     replace hr38_0 := hr38_0.ext hE39
     replace hsz := Nat.le_trans hsz hE39.size
     have hv40 := verdicts6_ret qka39 qkc39 co er qsa39 qsc39 se qja39 qjc39 qsl39 qra39 qrc39 rl  w39 hlg39 (big_same hm39 (rotJ_big hbg)) 
     rw [lg_same hm39] at hv40
     refine l_o (o_call Tryz.call35 rfl (hv40) rfl ?_)
     rintro _ w41 ⟨a41_0, c41_0, rfl, hr41_0, hE41⟩
     replace hB := below_ext hB hE41 hsz
     replace hb1 := hb1.ext hE41
     replace hty_b1 := hty_b1.ext hE41
     replace hbx := hbx.ext hE41
     replace hbz := hbz.ext hE41
     replace hty_bx := hty_bx.ext hE41
     replace hty_bz := hty_bz.ext hE41
     replace hoJ := own_ext hoJ hE41
     replace hoR := own_ext hoR hE41
     replace hlg36 := hlg36.ext hE41
     replace hr38_0 := hr38_0.ext hE41
     replace hlg39 := hlg39.ext hE41
     replace hsz := Nat.le_trans hsz hE41.size
     refine l_q (q_move (v := .tuple _) rfl rfl) (l_q (q_extract (vs := [_, _]) (v := .slice _ _ _) rfl rfl rfl) (l_q (q_extract (vs := [_, _]) (v := .int _ _) rfl rfl rfl) (l_q (qas rfl rfl) (l_q (qai rfl rfl) (l_nil (r_forget [(8, .pointer _), (10, .int _ _), (11, .slice _ _ _), (12, .int _ _), (13, .slice _ _ _), (14, .int _ _)] ⟨rfl, rfl, rfl, rfl, rfl, rfl, trivial⟩ (fun e42 => (r_seq (r_region' (l_q (q_load_agg (n := 5) Tryz.isAgg29 Tryz.sizeOf29 rfl ((hbz.cells' (cs' := [_, _, _, _, _]) 0 5 rfl)) rfl rfl) (l_o (o_call Tryz.call20 rfl (log6_ret ka kc co er sa sc se ja jc sl a33 c33 (rotL k rl) _ ⟨(hlg.rco.below hB), (hlg.rse.below hB), (hlg.rsl.below hB), (hlg.rslr.below hB), (Row.of_owns hoR)⟩ (rotR_big hbg)) rfl ?_))))))))))))
     rintro _ w43 ⟨qka43, qkc43, qsa43, qsc43, qja43, qjc43, qsl43, qra43, qrc43, rfl, hlg43, hm43, hE43⟩
     replace hB := below_ext hB hE43 hsz
     replace hb1 := hb1.ext hE43
     replace hty_b1 := hty_b1.ext hE43
     replace hbx := hbx.ext hE43
     replace hbz := hbz.ext hE43
     replace hty_bx := hty_bx.ext hE43
     replace hty_bz := hty_bz.ext hE43
     replace hoJ := own_ext hoJ hE43
     replace hoR := own_ext hoR hE43
     replace hlg36 := hlg36.ext hE43
     replace hr38_0 := hr38_0.ext hE43
     replace hlg39 := hlg39.ext hE43
     replace hr41_0 := hr41_0.ext hE43
     replace hsz := Nat.le_trans hsz hE43.size
     have hv44 := verdicts6_ret qka43 qkc43 co er qsa43 qsc43 se qja43 qjc43 qsl43 qra43 qrc43 (rotL k rl)  w43 hlg43 (big_same hm43 (rotR_big hbg)) 
     rw [lg_same hm43] at hv44
     refine l_o (o_call Tryz.call35 rfl (hv44) rfl ?_)
     rintro _ w45 ⟨a45_0, c45_0, rfl, hr45_0, hE45⟩
     replace hB := below_ext hB hE45 hsz
     replace hb1 := hb1.ext hE45
     replace hty_b1 := hty_b1.ext hE45
     replace hbx := hbx.ext hE45
     replace hbz := hbz.ext hE45
     replace hty_bx := hty_bx.ext hE45
     replace hty_bz := hty_bz.ext hE45
     replace hoJ := own_ext hoJ hE45
     replace hoR := own_ext hoR hE45
     replace hlg36 := hlg36.ext hE45
     replace hr38_0 := hr38_0.ext hE45
     replace hlg39 := hlg39.ext hE45
     replace hr41_0 := hr41_0.ext hE45
     replace hlg43 := hlg43.ext hE45
     replace hsz := Nat.le_trans hsz hE45.size
     refine l_q (q_move (v := .tuple _) rfl rfl) (l_q (q_extract (vs := [_, _]) (v := .slice _ _ _) rfl rfl rfl) (l_q (q_extract (vs := [_, _]) (v := .int _ _) rfl rfl rfl) (l_q (qas rfl rfl) (l_q (qai rfl rfl) (l_nil (r_seq (r_seq (r_region' (l_q (qmi rfl rfl) (l_q (qmi rfl rfl) (l_q (q_neq rfl rfl rfl) (l_q (qmb rfl rfl) ?_))))))))))))
     have hk46 : (!decide (((verdW (lg co er se sl rl)).2) = ((verdW (lg co er se (rotL i sl) rl)).2))) = false := by rw [hvx]; simp
     refine l_part 94 rfl (fun hx => absurd (hk46.symm.trans hx) (by decide)) (fun _ => (l_q (qmi rfl rfl) (l_q (qmi rfl rfl) (l_q (q_neq rfl rfl rfl) (l_q (q_pick_f (v := .bool _) rfl rfl rfl) (l_q (qmb rfl rfl) ?_))))))
     have hk47 : (!decide (((verdW (lg co er se sl rl)).2) = ((verdW (lg co er se sl (rotL k rl))).2))) = false := by rw [hvy]; simp
     refine l_part 99 rfl (fun hx => absurd (hk47.symm.trans hx) (by decide)) (fun _ => (l_q (qms rfl rfl) (l_q (qms rfl rfl) (l_o (o_call Tryz.call24 rfl (same_ret _ _ ((verdW (lg co er se sl rl)).1) _ _ ((verdW (lg co er se (rotL i sl) rl)).1) _ hr38_0 (by omega) hr41_0 (by rw [hvx]; omega)) rfl ?_)))))
     rintro _ w48 ⟨rfl, hE48⟩
     replace hB := below_ext hB hE48 hsz
     replace hb1 := hb1.ext hE48
     replace hty_b1 := hty_b1.ext hE48
     replace hbx := hbx.ext hE48
     replace hbz := hbz.ext hE48
     replace hty_bx := hty_bx.ext hE48
     replace hty_bz := hty_bz.ext hE48
     replace hoJ := own_ext hoJ hE48
     replace hoR := own_ext hoR hE48
     replace hlg36 := hlg36.ext hE48
     replace hr38_0 := hr38_0.ext hE48
     replace hlg39 := hlg39.ext hE48
     replace hr41_0 := hr41_0.ext hE48
     replace hlg43 := hlg43.ext hE48
     replace hr45_0 := hr45_0.ext hE48
     replace hsz := Nat.le_trans hsz hE48.size
     refine l_q (q_not rfl rfl) (l_q (q_pick_f (v := .bool _) rfl rfl rfl) (l_q (qmb rfl rfl) ?_))
     have hk49 : (!(decide (((verdW (lg co er se sl rl)).1) = ((verdW (lg co er se (rotL i sl) rl)).1)))) = false := by rw [hvx]; simp
     refine l_part 105 rfl (fun hx => absurd (hk49.symm.trans hx) (by decide)) (fun _ => (l_q (qms rfl rfl) (l_q (q_len rfl Tryz.underlying25 rfl rfl) (l_q (qms rfl rfl) (l_q (q_len rfl Tryz.underlying25 rfl rfl) (l_q (q_neq rfl rfl rfl) (l_q (q_pick_f (v := .bool _) rfl rfl rfl) (l_q (qmb rfl rfl) ?_))))))))
     have hk50 : (!decide ((((verdW (lg co er se sl (rotL k rl))).1).length : Int) = (((verdW (lg co er se sl rl)).1).length : Int))) = false := by rw [hyl]; simp
     refine l_part 112 rfl (fun hx => absurd (hk50.symm.trans hx) (by decide)) (fun _ => (l_q (qmi rfl rfl) (l_q (q_neq rfl rfl rfl) (l_q (qmb rfl rfl) (l_part 115 rfl (fun hc51 => ?_) (fun hc51 => ?_))))))
     ·
      replace hc51 := df (nt hc51)
      have hve := (vd_err hok hc51).1
      refine l_q (qmi rfl rfl) (l_q (q_neq rfl rfl rfl) (l_q (q_pick_t (v := .bool _) rfl rfl rfl) (l_q (q_pick_f (v := .bool _) rfl rfl rfl) (l_nil (r_forget [(10, .int _ _), (11, .slice _ _ _), (15, .slice _ _ _), (119, .bool _)] ⟨rfl, rfl, rfl, rfl, trivial⟩ (fun e52 => ?_))))))
      have hk53 : (!decide (((verdW (lg co er se sl rl)).2) = 11)) = false := by rw [hve]; rfl
      refine r_cond_f ((congrArg Value.bool hk53 : Value.bool _ = _)) (r_skip (r_seq (r_region' (l_q (qms rfl rfl) (l_q (q_len rfl Tryz.underlying25 rfl rfl) (l_q (qai rfl rfl) (l_nil (r_seq (r_seq (r_region' (l_q (qai rfl rfl) (l_nil (r_block ?_)))))))))))))
      refine r_rounds (α := Nat) (fun c e wl => Knows e [(10, vint (k : Int)), (11, .slice a38_0 (((verdW (lg co er se sl rl)).1).length) c38_0), (15, .slice a45_0 (((verdW (lg co er se sl (rotL k rl))).1).length) c45_0), (17, vint (((verdW (lg co er se sl rl)).1).length : Int)), (18, vint (c : Int))] ∧ (c ≤ (verdW (lg co er se sl rl)).1.length) ∧ (Blk wl b1 [.slice ka co.length kc, vint er, .slice sa se.length sc, .slice ja sl.length jc, .slice ra rl.length rc]) ∧ (TyAt wl b1 29) ∧ (Blk wl bx [.slice ka co.length kc, vint er, .slice sa se.length sc, .slice a23 ((rotL i sl).length) c23, .slice ra rl.length rc]) ∧ (Blk wl bz [.slice ka co.length kc, vint er, .slice sa se.length sc, .slice ja sl.length jc, .slice a33 ((rotL k rl).length) c33]) ∧ (TyAt wl bx 29) ∧ (TyAt wl bz 29) ∧ (wl.ownsRow w13.heap.size 69 3 (.slice a23 ((rotL i sl).length) c23) ((rotL i sl).length) ((rotL i sl).flatMap SN.enc)) ∧ (wl.ownsRow w24.heap.size 61 3 (.slice a33 ((rotL k rl).length) c33) ((rotL k rl).length) ((rotL k rl).flatMap RC.enc)) ∧ (LgAt wl qka36 qkc36 co qsa36 qsc36 se qja36 qjc36 qsl36 qra36 qrc36 rl) ∧ (Row wl a38_0 (((verdW (lg co er se sl rl)).1).length) c38_0 1 (((verdW (lg co er se sl rl)).1).map vint)) ∧ (LgAt wl qka39 qkc39 co qsa39 qsc39 se qja39 qjc39 qsl39 qra39 qrc39 rl) ∧ (Row wl a41_0 (((verdW (lg co er se (rotL i sl) rl)).1).length) c41_0 1 (((verdW (lg co er se (rotL i sl) rl)).1).map vint)) ∧ (LgAt wl qka43 qkc43 co qsa43 qsc43 se qja43 qjc43 qsl43 qra43 qrc43 (rotL k rl)) ∧ (Row wl a45_0 (((verdW (lg co er se sl (rotL k rl))).1).length) c45_0 1 (((verdW (lg co er se sl (rotL k rl))).1).map vint)) ∧ (w.heap.size ≤ wl.heap.size) ∧ (Below w.heap.size w wl)) (fun c => (verdW (lg co er se sl rl)).1.length - c) 0 ?_ ?_
      ·
       exact ⟨⟨rfl, rfl, rfl, rfl, rfl, trivial⟩, (Nat.zero_le _), hb1, hty_b1, hbx, hbz, hty_bx, hty_bz, hoJ, hoR, hlg36, hr38_0, hlg39, hr41_0, hlg43, hr45_0, hsz, hB⟩
      ·
       rintro c el54 wl54 ⟨hkn, hkc, hb1, hty_b1, hbx, hbz, hty_bx, hty_bz, hoJ, hoR, hlg36, hr38_0, hlg39, hr41_0, hlg43, hr45_0, hsz, hB⟩ ih54
       obtain ⟨e54, rfl⟩ := knows_env hkn
       refine r_seq (r_seq (r_region' (l_q (qmi rfl rfl) (l_q (qmi rfl rfl) (l_q (q_lss rfl rfl rfl) (l_nil (r_cond rfl (fun hc55 => ?_) (fun hc55 => ?_))))))))
       ·
        replace hc55 := dt hc55
        refine r_skip (r_seq (r_block (r_seq ?_)))
        have hcV : c < (verdW (lg co er se sl rl)).1.length := by omega
        have hN : (verdW (lg co er se sl rl)).1.length = rl.length := verd_len hok hcV
        obtain ⟨q, hq, hqe⟩ : ∃ q : Nat, ((c : Int) + ((verdW (lg co er se sl rl)).1.length : Int) - (k : Int)) % ((verdW (lg co er se sl rl)).1.length : Int) = (q : Int) ∧ q = (c + (verdW (lg co er se sl rl)).1.length - k) % (verdW (lg co er se sl rl)).1.length := ⟨_, mod_nat (by omega), rfl⟩
        have hql : q < (verdW (lg co er se sl rl)).1.length := by rw [hqe]; exact Nat.mod_lt _ (by omega)
        refine r_draw ext_refl' ext_trans' [0, 1, 2, 3, 4, 5, 6, 7, 8, 9, 10, 11, 12, 13, 14] [] 14 (by kernel_rfl) (by kernel_rfl) ?_
        intro w56 _ hE56
        replace hB := below_ext hB hE56 hsz
        replace hb1 := hb1.ext hE56
        replace hty_b1 := hty_b1.ext hE56
        replace hbx := hbx.ext hE56
        replace hbz := hbz.ext hE56
        replace hty_bx := hty_bx.ext hE56
        replace hty_bz := hty_bz.ext hE56
        replace hoJ := own_ext hoJ hE56
        replace hoR := own_ext hoR hE56
        replace hlg36 := hlg36.ext hE56
        replace hr38_0 := hr38_0.ext hE56
        replace hlg39 := hlg39.ext hE56
        replace hr41_0 := hr41_0.ext hE56
        replace hlg43 := hlg43.ext hE56
        replace hr45_0 := hr45_0.ext hE56
        replace hsz := Nat.le_trans hsz hE56.size
        refine m_q rfl rfl (fun w' hC' => qms rfl rfl) (m_q rfl rfl (fun w' hC' => qmi rfl rfl) (m_q rfl rfl (fun w' hC' => qmi rfl rfl) (m_q rfl rfl (fun w' hC' => q_add rfl rfl (by omega) rfl) (m_q rfl rfl (fun w' hC' => qmi rfl rfl) (m_q rfl rfl (fun w' hC' => q_sub rfl rfl (by omega) rfl) (m_q rfl rfl (fun w' hC' => qmi rfl rfl) (m_q rfl rfl (fun w' hC' => q_rem rfl rfl (by omega) rfl) ?_)))))))
        obtain ⟨b57, o57, ha57, hh57⟩ := hr45_0.at1 ((((c : Int) + (((verdW (lg co er se sl rl)).1).length : Int)) - (k : Int)) % (((verdW (lg co er se sl rl)).1).length : Int)).toNat (((verdW (lg co er se sl (rotL k rl))).1).getD ((((c : Int) + (((verdW (lg co er se sl rl)).1).length : Int)) - (k : Int)) % (((verdW (lg co er se sl rl)).1).length : Int)).toNat 0) (getD_some (by omega))
        refine m_q rfl rfl (fun w' hC' => q_indexAddr1 Tryz.underlying25 Tryz.sizeOf3 rfl ha57 rfl (by omega) rfl) (m_q rfl rfl (fun w' hC' => q_load Tryz.isAgg3 rfl ((hh57.ext hC')) rfl) (m_q rfl rfl (fun w' hC' => qms rfl rfl) (m_q rfl rfl (fun w' hC' => qmi rfl rfl) ?_)))
        obtain ⟨b58, o58, ha58, hh58⟩ := hr38_0.at1 c (((verdW (lg co er se sl rl)).1).getD c 0) (getD_some (by omega))
        refine m_q rfl rfl (fun w' hC' => q_indexAddr1 Tryz.underlying25 Tryz.sizeOf3 rfl ha58 rfl (by omega) rfl) (m_q rfl rfl (fun w' hC' => q_load Tryz.isAgg3 rfl ((hh58.ext hC')) rfl) (m_q rfl rfl (fun w' hC' => q_neq rfl rfl rfl) (m_nil (r_forget [(10, .int _ _), (11, .slice _ _ _), (15, .slice _ _ _), (17, .int _ _), (18, .int _ _), (141, .bool _)] ⟨rfl, rfl, rfl, rfl, rfl, rfl, trivial⟩ (fun e59 => ?_)))))
        have hk60 : (!decide ((((verdW (lg co er se sl (rotL k rl))).1).getD ((((c : Int) + (((verdW (lg co er se sl rl)).1).length : Int)) - (k : Int)) % (((verdW (lg co er se sl rl)).1).length : Int)).toNat 0) = (((verdW (lg co er se sl rl)).1).getD c 0))) = false := by rw [hq, Int.toNat_natCast, hqe, hN, hvg c hcV]; simp
        refine r_cond_f ((congrArg Value.bool hk60 : Value.bool _ = _)) (r_skip (r_inBlock (r_region' (l_q (qmi rfl rfl) (l_q (q_add rfl rfl (by omega) rfl) (l_q (qai rfl rfl) (l_nil ?_)))))))
        exact ih54 (c + 1) _ _ ⟨⟨rfl, rfl, rfl, rfl, (vint_eq (by omega)), trivial⟩, (by omega), hb1, hty_b1, hbx, hbz, hty_bx, hty_bz, hoJ, hoR, hlg36, hr38_0, hlg39, hr41_0, hlg43, hr45_0, hsz, hB⟩ (by first | omega | (dsimp only; omega))
       ·
        replace hc55 := dlt hc55
        refine r_exit rfl (r_seq (r_region' (l_o (o_call Tryz.call18 rfl (awake6_ret _) rfl ?_))))
        rintro _ w61 ⟨rfl, hE61⟩
        replace hB := below_ext hB hE61 hsz
        replace hb1 := hb1.ext hE61
        replace hty_b1 := hty_b1.ext hE61
        replace hbx := hbx.ext hE61
        replace hbz := hbz.ext hE61
        replace hty_bx := hty_bx.ext hE61
        replace hty_bz := hty_bz.ext hE61
        replace hoJ := own_ext hoJ hE61
        replace hoR := own_ext hoR hE61
        replace hlg36 := hlg36.ext hE61
        replace hr38_0 := hr38_0.ext hE61
        replace hlg39 := hlg39.ext hE61
        replace hr41_0 := hr41_0.ext hE61
        replace hlg43 := hlg43.ext hE61
        replace hr45_0 := hr45_0.ext hE61
        replace hsz := Nat.le_trans hsz hE61.size
        refine l_q (qab rfl rfl) (l_nil (r_ret_ (vs := [.bool _]) rfl Tryz.func11 rfl (.nil _) ⟨rfl, trivial⟩ ?_))
        exact ⟨rfl, Ext.of_below hB⟩
     ·
      replace hc51 := dt (nf hc51)
      have h115 := hc51
      refine l_q (q_skip rfl) (l_q (q_skip rfl) (l_q (q_pick_f (v := .bool _) rfl rfl rfl) (l_q (q_pick_f (v := .bool _) rfl rfl rfl) (l_nil (r_forget [(10, .int _ _), (11, .slice _ _ _), (15, .slice _ _ _), (119, .bool _)] ⟨rfl, rfl, rfl, rfl, trivial⟩ (fun e62 => (r_cond_f rfl (r_skip (r_seq (r_region' (l_q (qms rfl rfl) (l_q (q_len rfl Tryz.underlying25 rfl rfl) (l_q (qai rfl rfl) (l_nil (r_seq (r_seq (r_region' (l_q (qai rfl rfl) (l_nil (r_block ?_))))))))))))))))))))
      refine r_rounds (α := Nat) (fun c e wl => Knows e [(10, vint (k : Int)), (11, .slice a38_0 (((verdW (lg co er se sl rl)).1).length) c38_0), (15, .slice a45_0 (((verdW (lg co er se sl (rotL k rl))).1).length) c45_0), (17, vint (((verdW (lg co er se sl rl)).1).length : Int)), (18, vint (c : Int))] ∧ (c ≤ (verdW (lg co er se sl rl)).1.length) ∧ (Blk wl b1 [.slice ka co.length kc, vint er, .slice sa se.length sc, .slice ja sl.length jc, .slice ra rl.length rc]) ∧ (TyAt wl b1 29) ∧ (Blk wl bx [.slice ka co.length kc, vint er, .slice sa se.length sc, .slice a23 ((rotL i sl).length) c23, .slice ra rl.length rc]) ∧ (Blk wl bz [.slice ka co.length kc, vint er, .slice sa se.length sc, .slice ja sl.length jc, .slice a33 ((rotL k rl).length) c33]) ∧ (TyAt wl bx 29) ∧ (TyAt wl bz 29) ∧ (wl.ownsRow w13.heap.size 69 3 (.slice a23 ((rotL i sl).length) c23) ((rotL i sl).length) ((rotL i sl).flatMap SN.enc)) ∧ (wl.ownsRow w24.heap.size 61 3 (.slice a33 ((rotL k rl).length) c33) ((rotL k rl).length) ((rotL k rl).flatMap RC.enc)) ∧ (LgAt wl qka36 qkc36 co qsa36 qsc36 se qja36 qjc36 qsl36 qra36 qrc36 rl) ∧ (Row wl a38_0 (((verdW (lg co er se sl rl)).1).length) c38_0 1 (((verdW (lg co er se sl rl)).1).map vint)) ∧ (LgAt wl qka39 qkc39 co qsa39 qsc39 se qja39 qjc39 qsl39 qra39 qrc39 rl) ∧ (Row wl a41_0 (((verdW (lg co er se (rotL i sl) rl)).1).length) c41_0 1 (((verdW (lg co er se (rotL i sl) rl)).1).map vint)) ∧ (LgAt wl qka43 qkc43 co qsa43 qsc43 se qja43 qjc43 qsl43 qra43 qrc43 (rotL k rl)) ∧ (Row wl a45_0 (((verdW (lg co er se sl (rotL k rl))).1).length) c45_0 1 (((verdW (lg co er se sl (rotL k rl))).1).map vint)) ∧ (w.heap.size ≤ wl.heap.size) ∧ (Below w.heap.size w wl)) (fun c => (verdW (lg co er se sl rl)).1.length - c) 0 ?_ ?_
      ·
       exact ⟨⟨rfl, rfl, rfl, rfl, rfl, trivial⟩, (Nat.zero_le _), hb1, hty_b1, hbx, hbz, hty_bx, hty_bz, hoJ, hoR, hlg36, hr38_0, hlg39, hr41_0, hlg43, hr45_0, hsz, hB⟩
      ·
       rintro c el63 wl63 ⟨hkn, hkc, hb1, hty_b1, hbx, hbz, hty_bx, hty_bz, hoJ, hoR, hlg36, hr38_0, hlg39, hr41_0, hlg43, hr45_0, hsz, hB⟩ ih63
       obtain ⟨e63, rfl⟩ := knows_env hkn
       refine r_seq (r_seq (r_region' (l_q (qmi rfl rfl) (l_q (qmi rfl rfl) (l_q (q_lss rfl rfl rfl) (l_nil (r_cond rfl (fun hc64 => ?_) (fun hc64 => ?_))))))))
       ·
        replace hc64 := dt hc64
        refine r_skip (r_seq (r_block (r_seq ?_)))
        have hcV : c < (verdW (lg co er se sl rl)).1.length := by omega
        have hN : (verdW (lg co er se sl rl)).1.length = rl.length := verd_len hok hcV
        obtain ⟨q, hq, hqe⟩ : ∃ q : Nat, ((c : Int) + ((verdW (lg co er se sl rl)).1.length : Int) - (k : Int)) % ((verdW (lg co er se sl rl)).1.length : Int) = (q : Int) ∧ q = (c + (verdW (lg co er se sl rl)).1.length - k) % (verdW (lg co er se sl rl)).1.length := ⟨_, mod_nat (by omega), rfl⟩
        have hql : q < (verdW (lg co er se sl rl)).1.length := by rw [hqe]; exact Nat.mod_lt _ (by omega)
        refine r_draw ext_refl' ext_trans' [0, 1, 2, 3, 4, 5, 6, 7, 8, 9, 10, 11, 12, 13, 14] [] 14 (by kernel_rfl) (by kernel_rfl) ?_
        intro w65 _ hE65
        replace hB := below_ext hB hE65 hsz
        replace hb1 := hb1.ext hE65
        replace hty_b1 := hty_b1.ext hE65
        replace hbx := hbx.ext hE65
        replace hbz := hbz.ext hE65
        replace hty_bx := hty_bx.ext hE65
        replace hty_bz := hty_bz.ext hE65
        replace hoJ := own_ext hoJ hE65
        replace hoR := own_ext hoR hE65
        replace hlg36 := hlg36.ext hE65
        replace hr38_0 := hr38_0.ext hE65
        replace hlg39 := hlg39.ext hE65
        replace hr41_0 := hr41_0.ext hE65
        replace hlg43 := hlg43.ext hE65
        replace hr45_0 := hr45_0.ext hE65
        replace hsz := Nat.le_trans hsz hE65.size
        refine m_q rfl rfl (fun w' hC' => qms rfl rfl) (m_q rfl rfl (fun w' hC' => qmi rfl rfl) (m_q rfl rfl (fun w' hC' => qmi rfl rfl) (m_q rfl rfl (fun w' hC' => q_add rfl rfl (by omega) rfl) (m_q rfl rfl (fun w' hC' => qmi rfl rfl) (m_q rfl rfl (fun w' hC' => q_sub rfl rfl (by omega) rfl) (m_q rfl rfl (fun w' hC' => qmi rfl rfl) (m_q rfl rfl (fun w' hC' => q_rem rfl rfl (by omega) rfl) ?_)))))))
        obtain ⟨b66, o66, ha66, hh66⟩ := hr45_0.at1 ((((c : Int) + (((verdW (lg co er se sl rl)).1).length : Int)) - (k : Int)) % (((verdW (lg co er se sl rl)).1).length : Int)).toNat (((verdW (lg co er se sl (rotL k rl))).1).getD ((((c : Int) + (((verdW (lg co er se sl rl)).1).length : Int)) - (k : Int)) % (((verdW (lg co er se sl rl)).1).length : Int)).toNat 0) (getD_some (by omega))
        refine m_q rfl rfl (fun w' hC' => q_indexAddr1 Tryz.underlying25 Tryz.sizeOf3 rfl ha66 rfl (by omega) rfl) (m_q rfl rfl (fun w' hC' => q_load Tryz.isAgg3 rfl ((hh66.ext hC')) rfl) (m_q rfl rfl (fun w' hC' => qms rfl rfl) (m_q rfl rfl (fun w' hC' => qmi rfl rfl) ?_)))
        obtain ⟨b67, o67, ha67, hh67⟩ := hr38_0.at1 c (((verdW (lg co er se sl rl)).1).getD c 0) (getD_some (by omega))
        refine m_q rfl rfl (fun w' hC' => q_indexAddr1 Tryz.underlying25 Tryz.sizeOf3 rfl ha67 rfl (by omega) rfl) (m_q rfl rfl (fun w' hC' => q_load Tryz.isAgg3 rfl ((hh67.ext hC')) rfl) (m_q rfl rfl (fun w' hC' => q_neq rfl rfl rfl) (m_nil (r_forget [(10, .int _ _), (11, .slice _ _ _), (15, .slice _ _ _), (17, .int _ _), (18, .int _ _), (141, .bool _)] ⟨rfl, rfl, rfl, rfl, rfl, rfl, trivial⟩ (fun e68 => ?_)))))
        have hk69 : (!decide ((((verdW (lg co er se sl (rotL k rl))).1).getD ((((c : Int) + (((verdW (lg co er se sl rl)).1).length : Int)) - (k : Int)) % (((verdW (lg co er se sl rl)).1).length : Int)).toNat 0) = (((verdW (lg co er se sl rl)).1).getD c 0))) = false := by rw [hq, Int.toNat_natCast, hqe, hN, hvg c hcV]; simp
        refine r_cond_f ((congrArg Value.bool hk69 : Value.bool _ = _)) (r_skip (r_inBlock (r_region' (l_q (qmi rfl rfl) (l_q (q_add rfl rfl (by omega) rfl) (l_q (qai rfl rfl) (l_nil ?_)))))))
        exact ih63 (c + 1) _ _ ⟨⟨rfl, rfl, rfl, rfl, (vint_eq (by omega)), trivial⟩, (by omega), hb1, hty_b1, hbx, hbz, hty_bx, hty_bz, hoJ, hoR, hlg36, hr38_0, hlg39, hr41_0, hlg43, hr45_0, hsz, hB⟩ (by first | omega | (dsimp only; omega))
       ·
        replace hc64 := dlt hc64
        refine r_exit rfl (r_seq (r_region' (l_o (o_call Tryz.call18 rfl (awake6_ret _) rfl ?_))))
        rintro _ w70 ⟨rfl, hE70⟩
        replace hB := below_ext hB hE70 hsz
        replace hb1 := hb1.ext hE70
        replace hty_b1 := hty_b1.ext hE70
        replace hsz := Nat.le_trans hsz hE70.size
        refine l_q (qab rfl rfl) (l_nil (r_ret_ (vs := [.bool _]) rfl Tryz.func11 rfl (.nil _) ⟨rfl, trivial⟩ ?_))
        exact ⟨rfl, Ext.of_below hB⟩
    · intro hj12
      have hszR : w.heap.size ≤ w2.heap.size := hsz
      have hszW : w2.heap.size ≤ w2.heap.size := Nat.le_refl _
      have hltR_b1 := hb1.lt
      refine r_draw3 (Below.refl w2.heap.size) (fun _ _ _ h1 h2 => h1.trans h2) (.op 0 (.op 1 (.fork 2 (.op 3 (.op 4 (.op 5 (.done)))) (.op 3 (.op 2 (.op 4 (.op 5 (.done)))))))) [2, 3, 4, 5] 6 (by kernel_rfl) (by kernel_rfl) ?_
      intro w71 _ hE71
      replace hB := below_ext hB hE71 hsz
      replace hb1 := hb1.ext hE71
      replace hty_b1 := hty_b1.ext hE71
      replace hszW := Nat.le_trans hszW hE71.size
      replace hsz := Nat.le_trans hsz hE71.size
      refine m_q3 rfl rfl (fun w' hC' => q_load_agg (n := 5) Tryz.isAgg29 Tryz.sizeOf29 rfl (((hb1.keep (hC'.block _ hltR_b1)).cells' (cs' := [_, _, _, _, _]) 0 5 rfl)) rfl rfl) (m_q3 rfl rfl (fun w' hC' => q_load_agg (n := 5) Tryz.isAgg29 Tryz.sizeOf29 rfl (((hb1.keep (hC'.block _ hltR_b1)).cells' (cs' := [_, _, _, _, _]) 0 5 rfl)) rfl rfl) (m_fork3 ?_ ?_))
      ·
       refine m_o3 rfl rfl (o_alloct Tryz.zeroValue29 rfl rfl ?_)
       intro b72 w72 hzl72 hzr72 _ hb72 hty_b72 hE72
       refine ⟨(below_ext_of hE72 hszW), ?_⟩
       have hne_b1_b72 : b1 ≠ b72 := by have := hb1.lt; omega
       have hbs_b72 : w.heap.size ≤ b72 := Nat.le_trans hsz hzl72
       have hWp_b72 := hszW
       have hbW_b72 := Nat.le_trans hszW hzl72
       replace hB := below_ext hB hE72 hsz
       replace hb1 := hb1.ext hE72
       replace hty_b1 := hty_b1.ext hE72
       replace hszW := Nat.le_trans hszW hE72.size
       replace hsz := Nat.le_trans hsz hE72.size
       refine m_o3 rfl rfl (o_alloct Tryz.zeroValue29 rfl rfl ?_)
       intro b73 w73 hzl73 hzr73 _ hb73 hty_b73 hE73
       refine ⟨(below_ext_of hE73 hszW), ?_⟩
       have hne_b1_b73 : b1 ≠ b73 := by have := hb1.lt; omega
       have hne_b72_b73 : b72 ≠ b73 := by have := hb72.lt; omega
       have hbs_b73 : w.heap.size ≤ b73 := Nat.le_trans hsz hzl73
       have hWp_b73 := hszW
       have hbW_b73 := Nat.le_trans hszW hzl73
       replace hB := below_ext hB hE73 hsz
       replace hb1 := hb1.ext hE73
       replace hty_b1 := hty_b1.ext hE73
       replace hszW := Nat.le_trans hszW hE73.size
       replace hb72 := hb72.ext hE73
       replace hty_b72 := hty_b72.ext hE73
       replace hsz := Nat.le_trans hsz hE73.size
       refine m_o3 rfl rfl (o_storet (vs := [.slice ka co.length kc, vint er, .slice sa se.length sc, .slice ja sl.length jc, .slice ra rl.length rc]) (cs' := [.slice ka co.length kc, vint er, .slice sa se.length sc, .slice ja sl.length jc, .slice ra rl.length rc]) Tryz.sizeOf29 rfl rfl rfl rfl hb72 (Nat.le_of_ble_eq_true rfl) rfl rfl ?_)
       intro w74 hz74 hb72 hT74 hG74
       refine ⟨(below_upd_of hG74 hbW_b72 hszW), ?_⟩
       replace hB := below_upd hB hG74 hsz (by omega)
       replace hsz : w.heap.size ≤ w74.heap.size := by rw [hz74]; exact hsz
       replace hb1 := hb1.upd hG74 (by omega)
       replace hty_b1 := hty_b1.upd hG74 (by omega)
       replace hszW := Nat.le_trans hszW hG74.size
       replace hb73 := hb73.upd hG74 (by omega)
       replace hty_b73 := hty_b73.upd hG74 (by omega)
       replace hty_b72 := hT74 _ hty_b72
       refine m_o3 rfl rfl (o_storet (vs := [.slice ka co.length kc, vint er, .slice sa se.length sc, .slice ja sl.length jc, .slice ra rl.length rc]) (cs' := [.slice ka co.length kc, vint er, .slice sa se.length sc, .slice ja sl.length jc, .slice ra rl.length rc]) Tryz.sizeOf29 rfl rfl rfl rfl hb73 (Nat.le_of_ble_eq_true rfl) rfl rfl ?_)
       intro w75 hz75 hb73 hT75 hG75
       refine ⟨(below_upd_of hG75 hbW_b73 hszW), ?_⟩
       replace hB := below_upd hB hG75 hsz (by omega)
       replace hsz : w.heap.size ≤ w75.heap.size := by rw [hz75]; exact hsz
       replace hb1 := hb1.upd hG75 (by omega)
       replace hty_b1 := hty_b1.upd hG75 (by omega)
       replace hszW := Nat.le_trans hszW hG75.size
       replace hb72 := hb72.upd hG75 (by omega)
       replace hty_b72 := hty_b72.upd hG75 (by omega)
       replace hty_b73 := hT75 _ hty_b73
       refine m_nil3 ?_
       exact hj12 (b72, b73) _ _ ⟨⟨rfl, rfl, rfl, rfl, rfl, trivial⟩, (by omega), (by omega), (by omega), (by omega), (by omega), hb72, hb73, hty_b72, hty_b73, hb1, hty_b1, hsz, hB⟩
      ·
       refine m_o3 rfl rfl (o_alloct Tryz.zeroValue29 rfl rfl ?_)
       intro b76 w76 hzl76 hzr76 _ hb76 hty_b76 hE76
       refine ⟨(below_ext_of hE76 hszW), ?_⟩
       have hne_b1_b76 : b1 ≠ b76 := by have := hb1.lt; omega
       have hbs_b76 : w.heap.size ≤ b76 := Nat.le_trans hsz hzl76
       have hWp_b76 := hszW
       have hbW_b76 := Nat.le_trans hszW hzl76
       replace hB := below_ext hB hE76 hsz
       replace hb1 := hb1.ext hE76
       replace hty_b1 := hty_b1.ext hE76
       replace hszW := Nat.le_trans hszW hE76.size
       replace hsz := Nat.le_trans hsz hE76.size
       refine m_o3 rfl rfl (o_alloct Tryz.zeroValue29 rfl rfl ?_)
       intro b77 w77 hzl77 hzr77 _ hb77 hty_b77 hE77
       refine ⟨(below_ext_of hE77 hszW), ?_⟩
       have hne_b1_b77 : b1 ≠ b77 := by have := hb1.lt; omega
       have hne_b76_b77 : b76 ≠ b77 := by have := hb76.lt; omega
       have hbs_b77 : w.heap.size ≤ b77 := Nat.le_trans hsz hzl77
       have hWp_b77 := hszW
       have hbW_b77 := Nat.le_trans hszW hzl77
       replace hB := below_ext hB hE77 hsz
       replace hb1 := hb1.ext hE77
       replace hty_b1 := hty_b1.ext hE77
       replace hszW := Nat.le_trans hszW hE77.size
       replace hb76 := hb76.ext hE77
       replace hty_b76 := hty_b76.ext hE77
       replace hsz := Nat.le_trans hsz hE77.size
       refine m_o3 rfl rfl (o_storet (vs := [.slice ka co.length kc, vint er, .slice sa se.length sc, .slice ja sl.length jc, .slice ra rl.length rc]) (cs' := [.slice ka co.length kc, vint er, .slice sa se.length sc, .slice ja sl.length jc, .slice ra rl.length rc]) Tryz.sizeOf29 rfl rfl rfl rfl hb77 (Nat.le_of_ble_eq_true rfl) rfl rfl ?_)
       intro w78 hz78 hb77 hT78 hG78
       refine ⟨(below_upd_of hG78 hbW_b77 hszW), ?_⟩
       replace hB := below_upd hB hG78 hsz (by omega)
       replace hsz : w.heap.size ≤ w78.heap.size := by rw [hz78]; exact hsz
       replace hb1 := hb1.upd hG78 (by omega)
       replace hty_b1 := hty_b1.upd hG78 (by omega)
       replace hszW := Nat.le_trans hszW hG78.size
       replace hb76 := hb76.upd hG78 (by omega)
       replace hty_b76 := hty_b76.upd hG78 (by omega)
       replace hty_b77 := hT78 _ hty_b77
       refine m_o3 rfl rfl (o_storet (vs := [.slice ka co.length kc, vint er, .slice sa se.length sc, .slice ja sl.length jc, .slice ra rl.length rc]) (cs' := [.slice ka co.length kc, vint er, .slice sa se.length sc, .slice ja sl.length jc, .slice ra rl.length rc]) Tryz.sizeOf29 rfl rfl rfl rfl hb76 (Nat.le_of_ble_eq_true rfl) rfl rfl ?_)
       intro w79 hz79 hb76 hT79 hG79
       refine ⟨(below_upd_of hG79 hbW_b76 hszW), ?_⟩
       replace hB := below_upd hB hG79 hsz (by omega)
       replace hsz : w.heap.size ≤ w79.heap.size := by rw [hz79]; exact hsz
       replace hb1 := hb1.upd hG79 (by omega)
       replace hty_b1 := hty_b1.upd hG79 (by omega)
       replace hszW := Nat.le_trans hszW hG79.size
       replace hb77 := hb77.upd hG79 (by omega)
       replace hty_b77 := hty_b77.upd hG79 (by omega)
       replace hty_b76 := hT79 _ hty_b76
       refine m_nil3 ?_
       exact hj12 (b77, b76) _ _ ⟨⟨rfl, rfl, rfl, rfl, rfl, trivial⟩, (by omega), (by omega), (by omega), (by omega), (by omega), hb77, hb76, hty_b77, hty_b76, hb1, hty_b1, hsz, hB⟩
end Go.Proofs.YtekkdhpgcilpdaaGreat
