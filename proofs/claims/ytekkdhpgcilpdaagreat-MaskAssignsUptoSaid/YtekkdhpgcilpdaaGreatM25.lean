/- Contracts. -/
import Derived.Test.YtekkdhpgcilpdaaGreatM24
set_option linter.unusedVariables false
set_option linter.unusedSimpArgs false
namespace Go.Proofs.YtekkdhpgcilpdaaGreat
open Go Go.RowKit Go.Gv Go.Fl
theorem all_noB {co : List Sg} {er : Int} {se : List Int} {sl : List SN} {rl : List RC} {D : List SV} (h : D.map (·.xs) = allF (canB (lg co er se sl rl)) sl.length (bitB 0) rl.length []) : D.map (·.xs) = allF (canB (lg co er se sl rl)) sl.length noB rl.length [] := by
  rw [h]
  exact all_out (fun r _ _ => by unfold bitB noB; rw [Nat.zero_div]; rfl)
theorem asg_eq {co : List Sg} {er : Int} {se : List Int} {sl : List SN} {rl : List RC} {D : List SV} (h : D.map (·.xs) = allF (canB (lg co er se sl rl)) sl.length noB rl.length []) : D.map (·.xs) = asgM (lg co er se sl rl) noB := by
  unfold asgM
  rw [lgJ]; exact h


theorem rassign6_ret (ka : Option Addr) (kc : Nat) (co : List Sg) (er : Int) (sa : Option Addr) (sc : Nat) (se : List Int) (ja : Option Addr) (jc : Nat) (sl : List SN) (ra : Option Addr) (rc : Nat) (rl : List RC) (w : World) (hlg : LgAt w ka kc co sa sc se ja jc sl ra rc rl) (hbg : LgBig co er se sl rl) (hok : faultM (lg co er se sl rl) = 0) (hJ5 : sl.length ≤ 5) (hR4 : rl.length ≤ 4) : Ret Tryz.prog 47 [.agg ⟨[.slice ka co.length kc, vint er, .slice sa se.length sc, .slice ja sl.length jc, .slice ra rl.length rc]⟩] w (fun v w' => ∃ ra0 rc0, v = .tuple ⟨[.slice ra0 (bestI (asgM (lg co er se sl rl) noB) (asgM (lg co er se sl rl) noB).length).length rc0, .bool (decide (asgM (lg co er se sl rl) noB ≠ []))]⟩ ∧ Row w' ra0 (bestI (asgM (lg co er se sl rl) noB) (asgM (lg co er se sl rl) noB).length).length rc0 1 ((bestI (asgM (lg co er se sl rl) noB) (asgM (lg co er se sl rl) noB).length).map vint) ∧ Ext w w') := by
 obtain ⟨⟨hcn, hcl⟩, hen, hsn, ⟨hjn, hjl⟩, hrn, hrl⟩ := id hbg
 have hB := Below.refl w.heap.size w
 have hsz : w.heap.size ≤ w.heap.size := Nat.le_refl _
 refine ret_of_runs (args := [_]) Tryz.func47 rfl (Nat.le_of_ble_eq_true rfl) (by kernel_rfl) (r_seq (r_region' (l_o (o_box rfl rfl rfl ?_))))
 intro b1 w1 hzl1 hzr1 _ hb1 hE1
 have hbs_b1 : w.heap.size ≤ b1 := Nat.le_trans hsz hzl1
 replace hB := below_ext hB hE1 hsz
 replace hsz := Nat.le_trans hsz hE1.size
 refine l_q (qas rfl rfl) (l_q (qab rfl rfl) (l_nil (r_seq (r_region' (l_q (q_load_agg (n := 5) Tryz.isAgg29 Tryz.sizeOf29 rfl ((hb1.cells' (cs' := [_, _, _, _, _]) 0 5 rfl)) rfl rfl) (l_o (o_call Tryz.call76 rfl (all6_ret ka kc co er sa sc se ja jc sl ra rc rl 0 _ (hlg.below hB) hbg hok (by decide) hJ5 hR4) rfl ?_)))))))
 rintro _ w2 ⟨da2, dc2, D2, rfl, hD2, hDr2, hDm, hE2⟩
 replace hB := below_ext hB hE2 hsz
 replace hb1 := hb1.ext hE2
 replace hsz := Nat.le_trans hsz hE2.size
 replace hDm := all_noB hDm
 have hDe := asg_eq hDm
 have hDc := svA_card hDm hJ5 hR4
 refine l_q (qas rfl rfl) (l_nil (r_seq (r_region' (l_q (qas rfl rfl) (l_nil (r_seq (r_seq (r_region' (l_q (qai rfl rfl) (l_nil (r_block (r_rounds (α := Nat × (Option Addr) × Nat × (List Int)) (fun ⟨i, ba, bc, B⟩ e wl => Knows e [(4, .slice da2 ((D2).length) dc2), (5, .slice ba ((B).length) bc), (6, vint (i : Int))] ∧ (i ≤ D2.length) ∧ (B = bestI (D2.map (·.xs)) i) ∧ (B.length ≤ 6) ∧ (Row wl ba ((B).length) bc 1 ((B).map vint)) ∧ (Blk wl b1 [.slice ka co.length kc, vint er, .slice sa se.length sc, .slice ja sl.length jc, .slice ra rl.length rc]) ∧ (Row wl da2 ((D2).length) dc2 1 ((D2).map SV.enc)) ∧ (RowsI wl D2) ∧ (w.heap.size ≤ wl.heap.size) ∧ (Below w.heap.size w wl)) (fun ⟨i, ba, bc, B⟩ => D2.length - i) (0, none, 0, []) ?_ ?_))))))))))))
 ·
  exact ⟨⟨rfl, rfl, rfl, trivial⟩, (Nat.zero_le _), rfl, (Nat.zero_le _), (Row.nil _ _ _ _), hb1, hD2, hDr2, hsz, hB⟩
 ·
  rintro ⟨i, ba, bc, B⟩ el3 wl3 ⟨hkn, hi, hBb, hBl, hBw, hb1, hD2, hDr2, hsz, hB⟩ ih3
  obtain ⟨e3, rfl⟩ := knows_env hkn
  refine r_seq (r_seq (r_region' (l_q (qmi rfl rfl) (l_q (qms rfl rfl) (l_q (q_len rfl Tryz.underlying47 rfl rfl) (l_q (q_lss rfl rfl rfl) (l_nil (r_cond rfl (fun hc4 => ?_) (fun hc4 => ?_)))))))))
  ·
   replace hc4 := dt hc4
   have hiA : i < D2.length := by omega
   have hpl := svA_len hDm hiA
   refine r_skip (r_seq (r_block (r_seq (r_region' (l_q (qmi rfl rfl) (l_q (q_eql rfl rfl rfl) (l_q (qmb rfl rfl) (l_part 17 rfl (fun hc5 => ?_) (fun hc5 => ?_)))))))))
   ·
    replace hc5 := dt hc5
    have g16 : i = 0 := by have := hc5; omega
    refine l_q (q_skip rfl) (l_q (q_skip rfl) (l_q (q_skip rfl) (l_q (q_skip rfl) (l_q (q_skip rfl) (l_q (q_skip rfl) (l_q (q_skip rfl) (l_q (q_skip rfl) (l_q (q_pick_t (v := .bool _) rfl rfl rfl) (l_nil (r_forget [(4, .slice _ _ _), (5, .slice _ _ _), (6, .int _ _), (26, .bool _)] ⟨rfl, rfl, rfl, rfl, trivial⟩ (fun e6 => (r_cond_t rfl (r_region' (l_q (qms rfl rfl) (l_q (qmi rfl rfl) ?_)))))))))))))))
    have hr8 := hDr2.get (i := i) (by omega)
    obtain ⟨b7, o7, ha7, hh7⟩ := hD2.at1 i ((D2).getD i sv0) (getD_some (by omega))
    refine l_q (q_indexAddr1 Tryz.underlying47 Tryz.sizeOf25 rfl ha7 rfl (by omega) rfl) (l_q (q_load Tryz.isAgg25 rfl (hh7) rfl) (l_q (qas rfl rfl) (l_nil (r_inBlock (r_region' (l_q (qmi rfl rfl) (l_q (q_add rfl rfl (by omega) rfl) (l_q (qai rfl rfl) (l_nil ?_)))))))))
    exact ih3 (i + 1, ((D2).getD i sv0).a, ((D2).getD i sv0).c, (((D2).getD i sv0).xs)) _ _ ⟨⟨rfl, rfl, (vint_eq (by omega)), trivial⟩, (by omega), (by rw [bestI_y (by first | exact .inl g16 | (rw [svx_getD, ← hBb]; exact .inr g25)), svx_getD]), (by first | exact hBl | (rw [hpl]; omega)), hr8, hb1, hD2, hDr2, hsz, hB⟩ (by first | omega | (dsimp only; omega))
   ·
    replace hc5 := df hc5
    have g16 : ¬ i = 0 := by have := hc5; omega
    refine l_q (qms rfl rfl) (l_q (qmi rfl rfl) ?_)
    have hr10 := hDr2.get (i := i) (by omega)
    obtain ⟨b9, o9, ha9, hh9⟩ := hD2.at1 i ((D2).getD i sv0) (getD_some (by omega))
    refine l_q (q_indexAddr1 Tryz.underlying47 Tryz.sizeOf25 rfl ha9 rfl (by omega) rfl) (l_q (q_load Tryz.isAgg25 rfl (hh9) rfl) (l_o (o_call Tryz.call51 rfl (falses6_ret _ _ (((D2).getD i sv0).xs) _ hr10 (by omega)) rfl ?_)))
    rintro _ w11 ⟨rfl, hE11⟩
    replace hB := below_ext hB hE11 hsz
    replace hb1 := hb1.ext hE11
    replace hD2 := hD2.ext hE11
    replace hDr2 := hDr2.ext hE11
    replace hBw := hBw.ext hE11
    replace hsz := Nat.le_trans hsz hE11.size
    refine l_q (qms rfl rfl) (l_o (o_call Tryz.call51 rfl (falses6_ret _ _ B _ hBw (by omega)) rfl ?_))
    rintro _ w12 ⟨rfl, hE12⟩
    replace hB := below_ext hB hE12 hsz
    replace hb1 := hb1.ext hE12
    replace hD2 := hD2.ext hE12
    replace hDr2 := hDr2.ext hE12
    replace hBw := hBw.ext hE12
    replace hsz := Nat.le_trans hsz hE12.size
    refine l_q (q_lss rfl rfl rfl) (l_q (q_pick_f (v := .bool _) rfl rfl rfl) (l_nil (r_forget [(4, .slice _ _ _), (5, .slice _ _ _), (6, .int _ _), (26, .bool _)] ⟨rfl, rfl, rfl, rfl, trivial⟩ (fun e13 => (r_cond rfl (fun hc14 => ?_) (fun hc14 => ?_))))))
    ·
     replace hc14 := dt hc14
     have g25 := hc14
     refine r_region' (l_q (qms rfl rfl) (l_q (qmi rfl rfl) ?_))
     have hr16 := hDr2.get (i := i) (by omega)
     obtain ⟨b15, o15, ha15, hh15⟩ := hD2.at1 i ((D2).getD i sv0) (getD_some (by omega))
     refine l_q (q_indexAddr1 Tryz.underlying47 Tryz.sizeOf25 rfl ha15 rfl (by omega) rfl) (l_q (q_load Tryz.isAgg25 rfl (hh15) rfl) (l_q (qas rfl rfl) (l_nil (r_inBlock (r_region' (l_q (qmi rfl rfl) (l_q (q_add rfl rfl (by omega) rfl) (l_q (qai rfl rfl) (l_nil ?_)))))))))
     exact ih3 (i + 1, ((D2).getD i sv0).a, ((D2).getD i sv0).c, (((D2).getD i sv0).xs)) _ _ ⟨⟨rfl, rfl, (vint_eq (by omega)), trivial⟩, (by omega), (by rw [bestI_y (by first | exact .inl g16 | (rw [svx_getD, ← hBb]; exact .inr g25)), svx_getD]), (by first | exact hBl | (rw [hpl]; omega)), hr16, hb1, hD2, hDr2, hsz, hB⟩ (by first | omega | (dsimp only; omega))
    ·
     replace hc14 := dlt hc14
     have g25 := hc14
     refine r_skip (r_inBlock (r_region' (l_q (qmi rfl rfl) (l_q (q_add rfl rfl (by omega) rfl) (l_q (qai rfl rfl) (l_nil ?_))))))
     exact ih3 (i + 1, ba, bc, B) _ _ ⟨⟨rfl, rfl, (vint_eq (by omega)), trivial⟩, (by omega), (by rw [bestI_n (by rw [svx_getD, ← hBb]; exact fun h => h.elim g16 (fun h2 => by omega))]; exact hBb), (by first | exact hBl | (rw [hpl]; omega)), hBw, hb1, hD2, hDr2, hsz, hB⟩ (by first | omega | (dsimp only; omega))
  ·
   replace hc4 := dlt hc4
   refine r_exit rfl (r_seq (r_region' (l_q (qms rfl rfl) (l_q (qms rfl rfl) (l_q (q_len rfl Tryz.underlying47 rfl rfl) (l_q (q_gtr rfl rfl rfl) (l_q (qas rfl rfl) (l_q (qab rfl rfl) (l_nil (r_forget [(2, .slice _ _ _), (3, .bool _)] ⟨rfl, rfl, trivial⟩ (fun e17 => (r_ret_ (vs := [.slice _ _ _, .bool _]) rfl Tryz.func47 rfl (.nil _) ⟨rfl, rfl, trivial⟩ ?_))))))))))))
   have hDl : D2.length = (asgM (lg co er se sl rl) noB).length := by rw [← hDe, List.length_map]
   have hBe : B = bestI (asgM (lg co er se sl rl) noB) (asgM (lg co er se sl rl) noB).length := by rw [hBb, hDe, ← hDl, show i = D2.length by omega]
   subst hBe
   exact ⟨ba, bc, (by rw [len_pos hDe]; rfl), hBw, Ext.of_below hB⟩
theorem rverd6_ret (ka : Option Addr) (kc : Nat) (co : List Sg) (er : Int) (sa : Option Addr) (sc : Nat) (se : List Int) (ja : Option Addr) (jc : Nat) (sl : List SN) (ra : Option Addr) (rc : Nat) (rl : List RC) (w : World) (hlg : LgAt w ka kc co sa sc se ja jc sl ra rc rl) (hbg : LgBig co er se sl rl) (hok : faultM (lg co er se sl rl) = 0) (hJ5 : sl.length ≤ 5) (hR4 : rl.length ≤ 4) (hne : asgM (lg co er se sl rl) noB ≠ []) : Ret Tryz.prog 48 [.agg ⟨[.slice ka co.length kc, vint er, .slice sa se.length sc, .slice ja sl.length jc, .slice ra rl.length rc]⟩] w (fun v w' => ∃ ra0 rc0, v = .slice ra0 ((List.range rl.length).map (verdV (lg co er se sl rl))).length rc0 ∧ w'.ownsRow w.heap.size 3 1 (.slice ra0 ((List.range rl.length).map (verdV (lg co er se sl rl))).length rc0) ((List.range rl.length).map (verdV (lg co er se sl rl))).length (((List.range rl.length).map (verdV (lg co er se sl rl))).map vint) ∧ Ext w w') := by
 obtain ⟨⟨hcn, hcl⟩, hen, hsn, ⟨hjn, hjl⟩, hrn, hrl⟩ := id hbg
 have hB := Below.refl w.heap.size w
 have hsz : w.heap.size ≤ w.heap.size := Nat.le_refl _
 refine ret_of_runs (args := [_]) Tryz.func48 rfl (Nat.le_of_ble_eq_true rfl) (by kernel_rfl) (r_seq (r_region' (l_o (o_boxt rfl rfl rfl ?_))))
 intro b1 w1 hzl1 hzr1 _ hb1 hty_b1 hE1
 have hbs_b1 : w.heap.size ≤ b1 := Nat.le_trans hsz hzl1
 replace hB := below_ext hB hE1 hsz
 replace hsz := Nat.le_trans hsz hE1.size
 refine l_q (qas rfl rfl) (l_nil (r_seq (r_region' (l_q (q_load_agg (n := 5) Tryz.isAgg29 Tryz.sizeOf29 rfl ((hb1.cells' (cs' := [_, _, _, _, _]) 0 5 rfl)) rfl rfl) (l_o (o_call Tryz.call76 rfl (all6_ret ka kc co er sa sc se ja jc sl ra rc rl 0 _ (hlg.below hB) hbg hok (by decide) hJ5 hR4) rfl ?_))))))
 rintro _ w2 ⟨da2, dc2, D2, rfl, hD2, hDr2, hDm, hE2⟩
 replace hB := below_ext hB hE2 hsz
 replace hb1 := hb1.ext hE2
 replace hsz := Nat.le_trans hsz hE2.size
 replace hDm := all_noB hDm
 have hDe := asg_eq hDm
 have hDc := svA_card hDm hJ5 hR4
 refine l_q (qas rfl rfl) (l_nil (r_seq ?_))
 have hBE := Below.refl w2.heap.size w2
 have hsz_hBE : w.heap.size ≤ w2.heap.size := hsz
 have hlt_hBE_b1 := hb1.lt
 have hszE1 : w.heap.size ≤ w2.heap.size := hsz
 refine r_region' (l_q (qas rfl rfl) (l_nil (r_seq (r_seq (r_region' (l_q (qai rfl rfl) (l_nil (r_block (r_rounds (α := Nat × (Option Addr) × Nat × (List Int)) (fun ⟨r, oa, oc, ys⟩ e wl => Knows e [(1, ptr b1 0), (3, .slice da2 ((D2).length) dc2), (4, .slice oa ((ys).length) oc), (5, vint (r : Int))] ∧ (r ≤ rl.length) ∧ (ys = (List.range r).map (verdV (lg co er se sl rl))) ∧ (wl.ownsRow w2.heap.size 3 1 (.slice oa ((ys).length) oc) ((ys).length) ((ys).map vint)) ∧ (Below w2.heap.size w2 wl) ∧ (w.heap.size ≤ wl.heap.size) ∧ (Below w.heap.size w wl)) (fun ⟨r, oa, oc, ys⟩ => rl.length - r) (0, none, 0, []) ?_ ?_)))))))))
 ·
  exact ⟨⟨rfl, rfl, rfl, rfl, trivial⟩, (Nat.zero_le _), rfl, (World.ownsRow_nil _ _ _ _), hBE, hsz, hB⟩
 ·
  rintro ⟨r, oa, oc, ys⟩ el3 wl3 ⟨hkn, hkr, hys, ho, hBE, hsz, hB⟩ ih3
  obtain ⟨e3, rfl⟩ := knows_env hkn
  refine r_seq (r_seq (r_region' (l_q (qmi rfl rfl) (l_q (q_fieldAddr (o' := 4) rfl fld29_4 rfl) (l_q (q_load Tryz.isAgg27 rfl (((hb1.ext (Ext.of_below hBE)).has (o := 4) rfl)) rfl) (l_q (q_len rfl Tryz.underlying27 rfl rfl) (l_q (q_lss rfl rfl rfl) (l_nil (r_cond rfl (fun hc4 => ?_) (fun hc4 => ?_))))))))))
  ·
   replace hc4 := dt hc4
   have hrR : r < rl.length := by omega
   have hyl : ys.length ≤ r := by rw [hys, List.length_map, List.length_range]; exact Nat.le_refl _
   refine r_skip (r_seq (r_block (r_seq (r_region' (l_q (qab rfl rfl) (l_q (qab rfl rfl) (l_nil (r_seq (r_seq (r_region' (l_q (qai rfl rfl) (l_nil (r_block (r_rounds (α := Nat × Bool × Bool) (fun ⟨i, pa, pb⟩ e wl => Knows e [(1, ptr b1 0), (3, .slice da2 ((D2).length) dc2), (4, .slice oa ((ys).length) oc), (5, vint (r : Int)), (6, .bool pa), (7, .bool pb), (8, vint (i : Int))] ∧ (i ≤ D2.length) ∧ (pa = anyK (D2.map (·.xs)) (fun x => decide (0 ≤ x)) r i) ∧ (pb = anyK (D2.map (·.xs)) (fun x => decide (x < 0)) r i) ∧ (Below w2.heap.size w2 wl) ∧ (wl.ownsRow w2.heap.size 3 1 (.slice oa ((ys).length) oc) ((ys).length) ((ys).map vint)) ∧ (w.heap.size ≤ wl.heap.size) ∧ (Below w.heap.size w wl)) (fun ⟨i, pa, pb⟩ => D2.length - i) (0, false, false) ?_ ?_))))))))))))))
   ·
    exact ⟨⟨rfl, rfl, rfl, rfl, rfl, rfl, rfl, trivial⟩, (Nat.zero_le _), rfl, rfl, hBE, ho, hsz, hB⟩
   ·
    rintro ⟨i, pa, pb⟩ el5 wl5 ⟨hkn, hi, hpa, hpb, hBE, ho, hsz, hB⟩ ih5
    obtain ⟨e5, rfl⟩ := knows_env hkn
    refine r_seq (r_seq (r_region' (l_q (qmi rfl rfl) (l_q (qms rfl rfl) (l_q (q_len rfl Tryz.underlying47 rfl rfl) (l_q (q_lss rfl rfl rfl) (l_nil (r_cond rfl (fun hc6 => ?_) (fun hc6 => ?_)))))))))
    ·
     replace hc6 := dt hc6
     have hiA : i < D2.length := by omega
     have hpl := svA_len hDm hiA
     refine r_skip (r_seq (r_block (r_draw ext_refl' ext_trans' [0, 1, 2, 3, 4, 5, 6, 7, 8, 9, 10, 11, 12, 13, 14, 15, 16, 17, 18, 19, 20, 21, 22, 23] [] 12 (by kernel_rfl) (by kernel_rfl) ?_)))
     intro w7 _ hE7
     replace hB := below_ext hB hE7 hsz
     replace hBE := below_ext hBE hE7 hBE.size
     replace ho := own_ext ho hE7
     replace hsz := Nat.le_trans hsz hE7.size
     refine m_q rfl rfl (fun w' hC' => qmb rfl rfl) (m_q rfl rfl (fun w' hC' => qmb rfl rfl) (m_part 26 rfl (fun hc8 => ?_) (fun hc8 => ?_)))
     ·
      have g26 := hc8
      refine m_q rfl rfl (fun w' hC' => q_skip rfl) (m_q rfl rfl (fun w' hC' => q_skip rfl) (m_q rfl rfl (fun w' hC' => q_skip rfl) (m_q rfl rfl (fun w' hC' => q_skip rfl) (m_q rfl rfl (fun w' hC' => q_skip rfl) (m_q rfl rfl (fun w' hC' => q_skip rfl) (m_q rfl rfl (fun w' hC' => q_skip rfl) (m_q rfl rfl (fun w' hC' => q_skip rfl) (m_q rfl rfl (fun w' hC' => q_pick_t (v := .bool _) rfl rfl rfl) (m_q rfl rfl (fun w' hC' => qmb rfl rfl) (m_q rfl rfl (fun w' hC' => qmb rfl rfl) (m_part 37 rfl (fun hc9 => ?_) (fun hc9 => ?_))))))))))))
      ·
       have g37 := hc9
       refine m_q rfl rfl (fun w' hC' => q_skip rfl) (m_q rfl rfl (fun w' hC' => q_skip rfl) (m_q rfl rfl (fun w' hC' => q_skip rfl) (m_q rfl rfl (fun w' hC' => q_skip rfl) (m_q rfl rfl (fun w' hC' => q_skip rfl) (m_q rfl rfl (fun w' hC' => q_skip rfl) (m_q rfl rfl (fun w' hC' => q_skip rfl) (m_q rfl rfl (fun w' hC' => q_skip rfl) (m_q rfl rfl (fun w' hC' => q_pick_t (v := .bool _) rfl rfl rfl) (m_q rfl rfl (fun w' hC' => qab rfl rfl) (m_q rfl rfl (fun w' hC' => qab rfl rfl) (m_nil (r_forget [(1, .pointer _), (3, .slice _ _ _), (4, .slice _ _ _), (5, .int _ _), (6, .bool _), (7, .bool _), (8, .int _ _)] ⟨rfl, rfl, rfl, rfl, rfl, rfl, rfl, trivial⟩ (fun e10 => (r_inBlock (r_region' (l_q (qmi rfl rfl) (l_q (q_add rfl rfl (by omega) rfl) (l_q (qai rfl rfl) (l_nil ?_)))))))))))))))))))
       exact ih5 (i + 1, true, true) _ _ ⟨⟨rfl, rfl, rfl, rfl, rfl, rfl, (vint_eq (by omega)), trivial⟩, (by omega), (by rw [any_snoc (by rw [List.length_map]; exact hiA), ← hpa, svx_getD, g26]; rfl), (by rw [any_snoc (by rw [List.length_map]; exact hiA), ← hpb, svx_getD, g37]; rfl), hBE, ho, hsz, hB⟩ (by first | omega | (dsimp only; omega))
      ·
       have g37 := hc9
       refine m_q rfl rfl (fun w' hC' => qms rfl rfl) (m_q rfl rfl (fun w' hC' => qmi rfl rfl) ?_)
       have hr12 := (hDr2.ext (Ext.of_below hBE)).get (i := i) (by omega)
       obtain ⟨b11, o11, ha11, hh11⟩ := (hD2.ext (Ext.of_below hBE)).at1 i ((D2).getD i sv0) (getD_some (by omega))
       refine m_q rfl rfl (fun w' hC' => q_indexAddr1 Tryz.underlying47 Tryz.sizeOf25 rfl ha11 rfl (by omega) rfl) (m_q rfl rfl (fun w' hC' => q_load Tryz.isAgg25 rfl ((hh11.ext hC')) rfl) (m_q rfl rfl (fun w' hC' => qmi rfl rfl) ?_))
       obtain ⟨b13, o13, ha13, hh13⟩ := hr12.at1 r ((((D2).getD i sv0).xs).getD r 0) (getD_some (by omega))
       refine m_q rfl rfl (fun w' hC' => q_indexAddr1 Tryz.underlying25 Tryz.sizeOf3 rfl ha13 rfl (by omega) rfl) (m_q rfl rfl (fun w' hC' => q_load Tryz.isAgg3 rfl ((hh13.ext hC')) rfl) (m_q rfl rfl (fun w' hC' => q_lss rfl rfl rfl) (m_q rfl rfl (fun w' hC' => q_pick_f (v := .bool _) rfl rfl rfl) (m_q rfl rfl (fun w' hC' => qab rfl rfl) (m_q rfl rfl (fun w' hC' => qab rfl rfl) (m_nil (r_forget [(1, .pointer _), (3, .slice _ _ _), (4, .slice _ _ _), (5, .int _ _), (6, .bool _), (7, .bool _), (8, .int _ _)] ⟨rfl, rfl, rfl, rfl, rfl, rfl, rfl, trivial⟩ (fun e14 => (r_inBlock (r_region' (l_q (qmi rfl rfl) (l_q (q_add rfl rfl (by omega) rfl) (l_q (qai rfl rfl) (l_nil ?_))))))))))))))
       exact ih5 (i + 1, true, (decide (((((D2).getD i sv0).xs).getD r 0) < 0))) _ _ ⟨⟨rfl, rfl, rfl, rfl, rfl, rfl, (vint_eq (by omega)), trivial⟩, (by omega), (by rw [any_snoc (by rw [List.length_map]; exact hiA), ← hpa, svx_getD, g26]; rfl), (by rw [any_snoc (by rw [List.length_map]; exact hiA), ← hpb, svx_getD, g37]; rfl), hBE, ho, hsz, hB⟩ (by first | omega | (dsimp only; omega))
     ·
      have g26 := hc8
      refine m_q rfl rfl (fun w' hC' => qms rfl rfl) (m_q rfl rfl (fun w' hC' => qmi rfl rfl) ?_)
      have hr16 := (hDr2.ext (Ext.of_below hBE)).get (i := i) (by omega)
      obtain ⟨b15, o15, ha15, hh15⟩ := (hD2.ext (Ext.of_below hBE)).at1 i ((D2).getD i sv0) (getD_some (by omega))
      refine m_q rfl rfl (fun w' hC' => q_indexAddr1 Tryz.underlying47 Tryz.sizeOf25 rfl ha15 rfl (by omega) rfl) (m_q rfl rfl (fun w' hC' => q_load Tryz.isAgg25 rfl ((hh15.ext hC')) rfl) (m_q rfl rfl (fun w' hC' => qmi rfl rfl) ?_))
      obtain ⟨b17, o17, ha17, hh17⟩ := hr16.at1 r ((((D2).getD i sv0).xs).getD r 0) (getD_some (by omega))
      refine m_q rfl rfl (fun w' hC' => q_indexAddr1 Tryz.underlying25 Tryz.sizeOf3 rfl ha17 rfl (by omega) rfl) (m_q rfl rfl (fun w' hC' => q_load Tryz.isAgg3 rfl ((hh17.ext hC')) rfl) (m_q rfl rfl (fun w' hC' => q_geq rfl rfl rfl) (m_q rfl rfl (fun w' hC' => q_pick_f (v := .bool _) rfl rfl rfl) (m_q rfl rfl (fun w' hC' => qmb rfl rfl) (m_q rfl rfl (fun w' hC' => qmb rfl rfl) (m_part 37 rfl (fun hc18 => ?_) (fun hc18 => ?_)))))))
      ·
       have g37 := hc18
       refine m_q rfl rfl (fun w' hC' => q_skip rfl) (m_q rfl rfl (fun w' hC' => q_skip rfl) (m_q rfl rfl (fun w' hC' => q_skip rfl) (m_q rfl rfl (fun w' hC' => q_skip rfl) (m_q rfl rfl (fun w' hC' => q_skip rfl) (m_q rfl rfl (fun w' hC' => q_skip rfl) (m_q rfl rfl (fun w' hC' => q_skip rfl) (m_q rfl rfl (fun w' hC' => q_skip rfl) (m_q rfl rfl (fun w' hC' => q_pick_t (v := .bool _) rfl rfl rfl) (m_q rfl rfl (fun w' hC' => qab rfl rfl) (m_q rfl rfl (fun w' hC' => qab rfl rfl) (m_nil (r_forget [(1, .pointer _), (3, .slice _ _ _), (4, .slice _ _ _), (5, .int _ _), (6, .bool _), (7, .bool _), (8, .int _ _)] ⟨rfl, rfl, rfl, rfl, rfl, rfl, rfl, trivial⟩ (fun e19 => (r_inBlock (r_region' (l_q (qmi rfl rfl) (l_q (q_add rfl rfl (by omega) rfl) (l_q (qai rfl rfl) (l_nil ?_)))))))))))))))))))
       exact ih5 (i + 1, (decide (0 ≤ ((((D2).getD i sv0).xs).getD r 0))), true) _ _ ⟨⟨rfl, rfl, rfl, rfl, rfl, rfl, (vint_eq (by omega)), trivial⟩, (by omega), (by rw [any_snoc (by rw [List.length_map]; exact hiA), ← hpa, svx_getD, g26]; rfl), (by rw [any_snoc (by rw [List.length_map]; exact hiA), ← hpb, svx_getD, g37]; rfl), hBE, ho, hsz, hB⟩ (by first | omega | (dsimp only; omega))
      ·
       have g37 := hc18
       refine m_q rfl rfl (fun w' hC' => qms rfl rfl) (m_q rfl rfl (fun w' hC' => qmi rfl rfl) ?_)
       have hr21 := (hDr2.ext (Ext.of_below hBE)).get (i := i) (by omega)
       obtain ⟨b20, o20, ha20, hh20⟩ := (hD2.ext (Ext.of_below hBE)).at1 i ((D2).getD i sv0) (getD_some (by omega))
       refine m_q rfl rfl (fun w' hC' => q_indexAddr1 Tryz.underlying47 Tryz.sizeOf25 rfl ha20 rfl (by omega) rfl) (m_q rfl rfl (fun w' hC' => q_load Tryz.isAgg25 rfl ((hh20.ext hC')) rfl) (m_q rfl rfl (fun w' hC' => qmi rfl rfl) ?_))
       obtain ⟨b22, o22, ha22, hh22⟩ := hr21.at1 r ((((D2).getD i sv0).xs).getD r 0) (getD_some (by omega))
       refine m_q rfl rfl (fun w' hC' => q_indexAddr1 Tryz.underlying25 Tryz.sizeOf3 rfl ha22 rfl (by omega) rfl) (m_q rfl rfl (fun w' hC' => q_load Tryz.isAgg3 rfl ((hh22.ext hC')) rfl) (m_q rfl rfl (fun w' hC' => q_lss rfl rfl rfl) (m_q rfl rfl (fun w' hC' => q_pick_f (v := .bool _) rfl rfl rfl) (m_q rfl rfl (fun w' hC' => qab rfl rfl) (m_q rfl rfl (fun w' hC' => qab rfl rfl) (m_nil (r_forget [(1, .pointer _), (3, .slice _ _ _), (4, .slice _ _ _), (5, .int _ _), (6, .bool _), (7, .bool _), (8, .int _ _)] ⟨rfl, rfl, rfl, rfl, rfl, rfl, rfl, trivial⟩ (fun e23 => (r_inBlock (r_region' (l_q (qmi rfl rfl) (l_q (q_add rfl rfl (by omega) rfl) (l_q (qai rfl rfl) (l_nil ?_))))))))))))))
       exact ih5 (i + 1, (decide (0 ≤ ((((D2).getD i sv0).xs).getD r 0))), (decide (((((D2).getD i sv0).xs).getD r 0) < 0))) _ _ ⟨⟨rfl, rfl, rfl, rfl, rfl, rfl, (vint_eq (by omega)), trivial⟩, (by omega), (by rw [any_snoc (by rw [List.length_map]; exact hiA), ← hpa, svx_getD, g26]; rfl), (by rw [any_snoc (by rw [List.length_map]; exact hiA), ← hpb, svx_getD, g37]; rfl), hBE, ho, hsz, hB⟩ (by first | omega | (dsimp only; omega))
    ·
     replace hc6 := dlt hc6
     refine r_exit rfl (r_seq ?_)
     have hpA : pa = ownV (lg co er se sl rl) r := by rw [hpa, any_full (by rw [List.length_map]; omega), own_any hrR, hDe]
     have hpB : pb = falV (lg co er se sl rl) r := by rw [hpb, any_full (by rw [List.length_map]; omega), fal_any hrR, hDe]
     have hor := verd_or hne hrR
     refine r_region' (l_q (qai rfl rfl) (l_nil (r_seq (r_seq (r_region' (l_q (qmb rfl rfl) (l_q (qmb rfl rfl) (l_part 48 rfl (fun hc24 => ?_) (fun hc24 => ?_)))))))))
     ·
      have g48 := hc24
      refine l_q (qmb rfl rfl) (l_q (q_not rfl rfl) (l_q (q_pick_t (v := .bool _) rfl rfl rfl) (l_nil (r_cond rfl (fun hc25 => ?_) (fun hc25 => ?_)))))
      ·
       replace hc25 := nt hc25
       have g51 := hc25
       refine r_region' (l_q (qai rfl rfl) (l_nil (r_forget [(1, .pointer _), (3, .slice _ _ _), (4, .slice _ _ _), (5, .int _ _), (6, .bool _), (7, .bool _), (9, .int _ _)] ⟨rfl, rfl, rfl, rfl, rfl, rfl, rfl, trivial⟩ (fun e26 => (r_seq (r_seq (r_region' (l_q (qmb rfl rfl) (l_q (q_not rfl rfl) (l_q (qmb rfl rfl) ?_))))))))))
       have hk27 : (!pa) = false := by rw [g48]; rfl
       refine l_part 54 rfl (fun hx => absurd (hk27.symm.trans hx) (by decide)) (fun _ => (l_q (q_skip rfl) (l_q (q_pick_f (v := .bool _) rfl rfl rfl) (l_nil (r_cond_f rfl (r_skip (r_region' (l_q (qms rfl rfl) (l_q (qmi rfl rfl) ?_)))))))))
       have hbl_b1 := (hb1.ext (Ext.of_below hBE)).lt
       have hszf28 := hBE.size
       refine l_o (o_buildSlice (el := 3) (cs := [vint 1]) Tryz.underlying25 el3 (by decide) (by kernel_rfl) rfl (by decide) rfl ?_)
       intro b29 w29 hzl29 hzr29 _ hb29 hE29 ho29
       have hne_b1_b29 : b1 ≠ b29 := by have := (hb1.ext (Ext.of_below hBE)).lt; omega
       have hbs_b29 : w.heap.size ≤ b29 := Nat.le_trans hsz hzl29
       replace hB := below_ext hB hE29 hsz
       replace hBE := below_ext hBE hE29 hBE.size
       replace ho := own_ext ho hE29
       replace hsz := Nat.le_trans hsz hE29.size
       replace ho29 := own_mono ho29 (show w2.heap.size ≤ _ by omega)
       have hbl_b1 := (hb1.ext (Ext.of_below hBE)).lt
       have hszf30 := hBE.size
       refine l_o (o_append_map (f := vint) (ys) ([1]) Tryz.underlying25 el3 rfl rfl ho rfl (Row.of_owns ho29) (fun _ => rfl) (by (try simp only [List.length_append, List.length_cons, List.length_nil, List.length_take, List.length_drop, List.length_replicate]); omega) (by omega) rfl ?_)
       intro a31 c31 w31 hz31 ho31 hG31
       replace hB := below_own hB hG31 ho (by omega) hsz
       replace hsz := Nat.le_trans hsz hG31.size
       replace hBE := below_own hBE hG31 ho (by first | exact Nat.le_refl _ | omega) hBE.size
       refine l_q (qas rfl rfl) (l_nil (r_forget [(1, .pointer _), (3, .slice _ _ _), (4, .slice _ _ _), (5, .int _ _)] ⟨rfl, rfl, rfl, rfl, trivial⟩ (fun e32 => (r_inBlock (r_region' (l_q (qmi rfl rfl) (l_q (q_add rfl rfl (by omega) rfl) (l_q (qai rfl rfl) (l_nil ?_)))))))))
       exact ih3 (r + 1, a31, c31, (ys ++ [1])) _ _ ⟨⟨rfl, rfl, rfl, (vint_eq (by omega)), trivial⟩, (by omega), (verd_snoc hys (verd_1 (by rw [← hpA]; exact g48) (by rw [← hpB]; exact g51))), ho31, hBE, hsz, hB⟩ (by first | omega | (dsimp only; omega))
      ·
       replace hc25 := nf hc25
       have g51 := hc25
       refine r_skip (r_seq (r_seq (r_region' (l_q (qmb rfl rfl) (l_q (q_not rfl rfl) (l_q (qmb rfl rfl) ?_))))))
       have hk33 : (!pa) = false := by rw [g48]; rfl
       refine l_part 54 rfl (fun hx => absurd (hk33.symm.trans hx) (by decide)) (fun _ => (l_q (q_skip rfl) (l_q (q_pick_f (v := .bool _) rfl rfl rfl) (l_nil (r_forget [(1, .pointer _), (3, .slice _ _ _), (4, .slice _ _ _), (5, .int _ _), (9, .int _ _), (56, .bool _)] ⟨rfl, rfl, rfl, rfl, rfl, rfl, trivial⟩ (fun e34 => (r_cond_f rfl (r_skip (r_region' (l_q (qms rfl rfl) (l_q (qmi rfl rfl) ?_)))))))))))
       have hbl_b1 := (hb1.ext (Ext.of_below hBE)).lt
       have hszf35 := hBE.size
       refine l_o (o_buildSlice (el := 3) (cs := [vint 3]) Tryz.underlying25 el3 (by decide) (by kernel_rfl) rfl (by decide) rfl ?_)
       intro b36 w36 hzl36 hzr36 _ hb36 hE36 ho36
       have hne_b1_b36 : b1 ≠ b36 := by have := (hb1.ext (Ext.of_below hBE)).lt; omega
       have hbs_b36 : w.heap.size ≤ b36 := Nat.le_trans hsz hzl36
       replace hB := below_ext hB hE36 hsz
       replace hBE := below_ext hBE hE36 hBE.size
       replace ho := own_ext ho hE36
       replace hsz := Nat.le_trans hsz hE36.size
       replace ho36 := own_mono ho36 (show w2.heap.size ≤ _ by omega)
       have hbl_b1 := (hb1.ext (Ext.of_below hBE)).lt
       have hszf37 := hBE.size
       refine l_o (o_append_map (f := vint) (ys) ([3]) Tryz.underlying25 el3 rfl rfl ho rfl (Row.of_owns ho36) (fun _ => rfl) (by (try simp only [List.length_append, List.length_cons, List.length_nil, List.length_take, List.length_drop, List.length_replicate]); omega) (by omega) rfl ?_)
       intro a38 c38 w38 hz38 ho38 hG38
       replace hB := below_own hB hG38 ho (by omega) hsz
       replace hsz := Nat.le_trans hsz hG38.size
       replace hBE := below_own hBE hG38 ho (by first | exact Nat.le_refl _ | omega) hBE.size
       refine l_q (qas rfl rfl) (l_nil (r_inBlock (r_region' (l_q (qmi rfl rfl) (l_q (q_add rfl rfl (by omega) rfl) (l_q (qai rfl rfl) (l_nil ?_)))))))
       exact ih3 (r + 1, a38, c38, (ys ++ [3])) _ _ ⟨⟨rfl, rfl, rfl, (vint_eq (by omega)), trivial⟩, (by omega), (verd_snoc hys (verd_3 (by rw [← hpA]; exact g48) (by rw [← hpB]; exact g51))), ho38, hBE, hsz, hB⟩ (by first | omega | (dsimp only; omega))
     ·
      have g48 := hc24
      refine l_q (q_skip rfl) (l_q (q_skip rfl) (l_q (q_pick_f (v := .bool _) rfl rfl rfl) (l_nil (r_cond_f rfl (r_skip (r_seq (r_seq (r_region' (l_q (qmb rfl rfl) (l_q (q_not rfl rfl) (l_q (qmb rfl rfl) ?_)))))))))))
      have hk39 : (!pa) = true := by rw [g48]; rfl
      refine l_part 54 rfl (fun _ => ?_) (fun hx => absurd (hk39.symm.trans hx) (by decide))
      refine l_q (qmb rfl rfl) (l_q (q_pick_t (v := .bool _) rfl rfl rfl) (l_nil (r_forget [(1, .pointer _), (3, .slice _ _ _), (4, .slice _ _ _), (5, .int _ _), (9, .int _ _), (56, .bool _)] ⟨rfl, rfl, rfl, rfl, rfl, rfl, trivial⟩ (fun e40 => (r_cond rfl (fun hc41 => ?_) (fun hc41 => ?_))))))
      ·
       have g56 := hc41
       refine r_region' (l_q (qai rfl rfl) (l_nil (r_region' (l_q (qms rfl rfl) (l_q (qmi rfl rfl) ?_)))))
       have hbl_b1 := (hb1.ext (Ext.of_below hBE)).lt
       have hszf42 := hBE.size
       refine l_o (o_buildSlice (el := 3) (cs := [vint 2]) Tryz.underlying25 el3 (by decide) (by kernel_rfl) rfl (by decide) rfl ?_)
       intro b43 w43 hzl43 hzr43 _ hb43 hE43 ho43
       have hne_b1_b43 : b1 ≠ b43 := by have := (hb1.ext (Ext.of_below hBE)).lt; omega
       have hbs_b43 : w.heap.size ≤ b43 := Nat.le_trans hsz hzl43
       replace hB := below_ext hB hE43 hsz
       replace hBE := below_ext hBE hE43 hBE.size
       replace ho := own_ext ho hE43
       replace hsz := Nat.le_trans hsz hE43.size
       replace ho43 := own_mono ho43 (show w2.heap.size ≤ _ by omega)
       have hbl_b1 := (hb1.ext (Ext.of_below hBE)).lt
       have hszf44 := hBE.size
       refine l_o (o_append_map (f := vint) (ys) ([2]) Tryz.underlying25 el3 rfl rfl ho rfl (Row.of_owns ho43) (fun _ => rfl) (by (try simp only [List.length_append, List.length_cons, List.length_nil, List.length_take, List.length_drop, List.length_replicate]); omega) (by omega) rfl ?_)
       intro a45 c45 w45 hz45 ho45 hG45
       replace hB := below_own hB hG45 ho (by omega) hsz
       replace hsz := Nat.le_trans hsz hG45.size
       replace hBE := below_own hBE hG45 ho (by first | exact Nat.le_refl _ | omega) hBE.size
       refine l_q (qas rfl rfl) (l_nil (r_inBlock (r_region' (l_q (qmi rfl rfl) (l_q (q_add rfl rfl (by omega) rfl) (l_q (qai rfl rfl) (l_nil ?_)))))))
       exact ih3 (r + 1, a45, c45, (ys ++ [2])) _ _ ⟨⟨rfl, rfl, rfl, (vint_eq (by omega)), trivial⟩, (by omega), (verd_snoc hys (verd_2 (by rw [← hpA]; exact g48))), ho45, hBE, hsz, hB⟩ (by first | omega | (dsimp only; omega))
      ·
       have g56 := hc41
       refine r_skip (r_region' (l_q (qms rfl rfl) (l_q (qmi rfl rfl) ?_)))
       have hbl_b1 := (hb1.ext (Ext.of_below hBE)).lt
       have hszf46 := hBE.size
       refine l_o (o_buildSlice (el := 3) (cs := [vint 3]) Tryz.underlying25 el3 (by decide) (by kernel_rfl) rfl (by decide) rfl ?_)
       intro b47 w47 hzl47 hzr47 _ hb47 hE47 ho47
       have hne_b1_b47 : b1 ≠ b47 := by have := (hb1.ext (Ext.of_below hBE)).lt; omega
       have hbs_b47 : w.heap.size ≤ b47 := Nat.le_trans hsz hzl47
       replace hB := below_ext hB hE47 hsz
       replace hBE := below_ext hBE hE47 hBE.size
       replace ho := own_ext ho hE47
       replace hsz := Nat.le_trans hsz hE47.size
       replace ho47 := own_mono ho47 (show w2.heap.size ≤ _ by omega)
       have hbl_b1 := (hb1.ext (Ext.of_below hBE)).lt
       have hszf48 := hBE.size
       refine l_o (o_append_map (f := vint) (ys) ([3]) Tryz.underlying25 el3 rfl rfl ho rfl (Row.of_owns ho47) (fun _ => rfl) (by (try simp only [List.length_append, List.length_cons, List.length_nil, List.length_take, List.length_drop, List.length_replicate]); omega) (by omega) rfl ?_)
       intro a49 c49 w49 hz49 ho49 hG49
       replace hB := below_own hB hG49 ho (by omega) hsz
       replace hsz := Nat.le_trans hsz hG49.size
       replace hBE := below_own hBE hG49 ho (by first | exact Nat.le_refl _ | omega) hBE.size
       refine l_q (qas rfl rfl) (l_nil (r_inBlock (r_region' (l_q (qmi rfl rfl) (l_q (q_add rfl rfl (by omega) rfl) (l_q (qai rfl rfl) (l_nil ?_)))))))
       exact ih3 (r + 1, a49, c49, (ys ++ [3])) _ _ ⟨⟨rfl, rfl, rfl, (vint_eq (by omega)), trivial⟩, (by omega), (verd_snoc hys (absurd hor (by rw [← hpA, ← hpB, g48, g56]; decide))), ho49, hBE, hsz, hB⟩ (by first | omega | (dsimp only; omega))
  ·
   replace hc4 := dlt hc4
   refine r_exit rfl (r_seq (r_region' (l_q (qms rfl rfl) (l_q (qas rfl rfl) (l_nil (r_forget [(2, .slice _ _ _)] ⟨rfl, trivial⟩ (fun e50 => (r_ret_ (vs := [.slice _ _ _]) rfl Tryz.func48 rfl (.nil _) ⟨rfl, trivial⟩ ?_))))))))
   obtain rfl : r = rl.length := by omega
   subst hys
   exact ⟨_, _, rfl, own_mono ho (by omega), Ext.of_below hB⟩
end Go.Proofs.YtekkdhpgcilpdaaGreat
