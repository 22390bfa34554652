/- Contracts. -/
import Derived.Test.YtekkdhpgcilpdaaGreatM20
set_option linter.unusedVariables false
set_option linter.unusedSimpArgs false
namespace Go.Proofs.YtekkdhpgcilpdaaGreat
open Go Go.RowKit Go.Gv Go.Fl


theorem maskParts_ret (ka : Option Addr) (kc : Nat) (co : List Sg) (er : Int) (sa : Option Addr) (sc : Nat) (se : List Int) (ja : Option Addr) (jc : Nat) (sl : List SN) (ra : Option Addr) (rc : Nat) (rl : List RC) (wh : Int) (w : World) (hlg : LgAt w ka kc co sa sc se ja jc sl ra rc rl) (hbg : LgBig co er se sl rl) (hwh : 0 ≤ wh ∧ wh ≤ 255) : Ret Tryz.prog 12 [.agg ⟨[.slice ka co.length kc, vint er, .slice sa se.length sc, .slice ja sl.length jc, .slice ra rl.length rc]⟩, .int .u8 wh] w (fun v w' => v = .bool true ∧ Ext w w') := by
 obtain ⟨⟨hcn, hcl⟩, hen, hsn, ⟨hjn, hjl⟩, hrn, hrl⟩ := id hbg
 have hB := Below.refl w.heap.size w
 have hsz : w.heap.size ≤ w.heap.size := Nat.le_refl _
 refine ret_of_runs (args := [_, _]) Tryz.func12 rfl (Nat.le_of_ble_eq_true rfl) (by kernel_rfl) ?_
 refine r_seq (r_region' ?_)
 refine l_o (o_boxt rfl rfl rfl ?_)
 intro b1 w1 hzl1 hzr1 _ hb1 hty_b1 hE1
 have hbs_b1 : w.heap.size ≤ b1 := Nat.le_trans hsz hzl1
 replace hB := below_ext hB hE1 hsz
 replace hsz := Nat.le_trans hsz hE1.size
 refine l_q (q_assign (v := .bool _) rfl rfl) ?_
 refine l_nil (r_seq (r_seq (r_region' ?_)))
 refine l_q (q_load_agg (n := 5) Tryz.isAgg29 Tryz.sizeOf29 rfl ((hb1.cells' (cs' := [_, _, _, _, _]) 0 5 rfl)) rfl rfl) ?_
 refine l_o (o_call Tryz.call34 rfl (ready6_ret ka kc co er sa sc se ja jc sl ra rc rl _ (hlg.below hB) hbg) rfl ?_)
 rintro _ w2 ⟨bb2, rfl, hrdy, hE2⟩
 replace hB := below_ext hB hE2 hsz
 replace hb1 := hb1.ext hE2
 replace hty_b1 := hty_b1.ext hE2
 replace hsz := Nat.le_trans hsz hE2.size
 refine l_q (q_not rfl rfl) ?_
 refine l_nil ?_
 refine r_cond rfl (fun hc3 => ?_) (fun hc3 => ?_)
 ·
  replace hc3 := nt hc3
  refine r_seq (r_region' ?_)
  refine l_o (o_call Tryz.call18 rfl (awake6_ret _) rfl ?_)
  rintro _ w4 ⟨rfl, hE4⟩
  replace hB := below_ext hB hE4 hsz
  replace hb1 := hb1.ext hE4
  replace hty_b1 := hty_b1.ext hE4
  replace hsz := Nat.le_trans hsz hE4.size
  refine l_q (q_assign (v := .bool _) rfl rfl) ?_
  refine l_nil ?_
  refine r_ret_ (vs := [.bool _]) rfl Tryz.func12 rfl (.nil _) ⟨rfl, trivial⟩ ?_
  exact ⟨rfl, Ext.of_below hB⟩
 ·
  replace hc3 := nf hc3
  have hok := hrdy (by simpa using hc3)
  obtain ⟨⟨hs1, hs4⟩, hj8, hr6, hf0, ⟨he0, he3⟩, hsr, hJn, hRn⟩ := lg_ok hok
  have hhr : hourB (wh % 24) = true := by unfold hourB; rw [decide_eq_true (show 0 ≤ wh % 24 by omega), decide_eq_true (show wh % 24 ≤ 23 by omega)]; rfl
  refine r_skip (r_seq (r_region' ?_))
  refine l_q (q_move (v := .int _ _) rfl rfl) ?_
  refine l_q (q_toInt Tryz.underlying5 Tryz.underlying3 rfl (by omega) rfl) ?_
  refine l_q (q_rem rfl rfl (by omega) rfl) ?_
  refine l_q (q_assign (v := .int _ _) rfl rfl) ?_
  refine l_nil (r_seq (r_region' ?_))
  refine l_q (q_load_agg (n := 5) Tryz.isAgg29 Tryz.sizeOf29 rfl ((hb1.cells' (cs' := [_, _, _, _, _]) 0 5 rfl)) rfl rfl) ?_
  refine l_o (o_call Tryz.call20 rfl (log6_ret ka kc co er sa sc se ja jc sl ra rc rl _ (hlg.below hB) hbg) rfl ?_)
  rintro _ w5 ⟨qka5, qkc5, qsa5, qsc5, qja5, qjc5, qsl5, qra5, qrc5, rfl, hlg5, hm5, hE5⟩
  replace hB := below_ext hB hE5 hsz
  replace hb1 := hb1.ext hE5
  replace hty_b1 := hty_b1.ext hE5
  replace hsz := Nat.le_trans hsz hE5.size
  refine l_q (q_move (v := .int _ _) rfl rfl) ?_
  have hv6 := mHeard_ret qka5 qkc5 co er qsa5 qsc5 se qja5 qjc5 qsl5 qra5 qrc5 rl (wh % 24) w5 hlg5 (big_same hm5 hbg) 
  rw [lg_same hm5] at hv6
  refine l_o (o_call Tryz.call26 rfl (hv6) rfl ?_)
  rintro _ w7 ⟨ta7, tc7, D7, rfl, hrt7, hri7, hD7, hE7⟩
  replace hB := below_ext hB hE7 hsz
  replace hb1 := hb1.ext hE7
  replace hty_b1 := hty_b1.ext hE7
  replace hlg5 := hlg5.ext hE7
  replace hsz := Nat.le_trans hsz hE7.size
  refine l_q (q_move (v := .tuple _) rfl rfl) ?_
  refine l_q (q_extract (vs := [_, _]) (v := .slice _ _ _) rfl rfl rfl) ?_
  refine l_q (q_extract (vs := [_, _]) (v := .int _ _) rfl rfl rfl) ?_
  refine l_q (q_assign (v := .slice _ _ _) rfl rfl) ?_
  refine l_q (q_assign (v := .int _ _) rfl rfl) ?_
  refine l_nil ?_
  refine r_forget [(2, .pointer _), (5, .int _ _), (6, .slice _ _ _), (7, .int _ _)] ⟨rfl, rfl, rfl, rfl, trivial⟩ (fun e8 => ?_)
  refine r_seq (r_seq ?_)
  have hDt : D7.map (·.xs) = (textsL (lg co er se sl rl) (wh % 24)) := by rw [hD7, heardM_0 hok hhr]
  have hDl : D7.length ≤ 200 := tx_len hJn hj8 hDt
  have hDx : ∀ s ∈ D7, s.xs.length ≤ 2097152 := fun s hs => by
    obtain ⟨j, hj, rfl⟩ := List.mem_iff_getElem.1 hs
    have h := (tx_ok hJn hDt hj).2.1
    rw [List.getD_eq_getElem?_getD, List.getElem?_eq_getElem hj] at h
    exact Nat.le_trans h (by decide)
  refine r_region' ?_
  refine l_q (q_move (v := .int _ _) rfl rfl) ?_
  refine l_q (q_neq rfl rfl rfl) ?_
  refine l_nil ?_
  have hk9 : (!decide (((heardM (lg co er se sl rl) (wh % 24)).2) = 0)) = false := by rw [heardM_0 hok hhr]; rfl
  refine r_cond_f ((congrArg Value.bool hk9 : Value.bool _ = _)) ?_
  refine r_skip (r_seq (r_seq (r_region' ?_)))
  refine l_q (q_assign (v := .int _ _) rfl rfl) ?_
  refine l_nil (r_block ?_)
  refine r_rounds (α := Nat) (fun i e wl => Knows e [(2, ptr b1 0), (5, vint (wh % 24)), (6, .slice ta7 D7.length tc7), (8, vint (i : Int))] ∧ (i ≤ D7.length) ∧ (Blk wl b1 [.slice ka co.length kc, vint er, .slice sa se.length sc, .slice ja sl.length jc, .slice ra rl.length rc]) ∧ (TyAt wl b1 29) ∧ (LgAt wl qka5 qkc5 co qsa5 qsc5 se qja5 qjc5 qsl5 qra5 qrc5 rl) ∧ (Row wl ta7 D7.length tc7 1 (D7.map SV.enc)) ∧ (RowsI wl D7) ∧ (w.heap.size ≤ wl.heap.size) ∧ (Below w.heap.size w wl)) (fun i => D7.length - i) 0 ?_ ?_
  ·
   exact ⟨⟨rfl, rfl, rfl, rfl, trivial⟩, (Nat.zero_le _), hb1, hty_b1, hlg5, hrt7, hri7, hsz, hB⟩
  ·
   rintro i el10 wl10 ⟨hkn, hki, hb1, hty_b1, hlg5, hrt7, hri7, hsz, hB⟩ ih10
   obtain ⟨e10, rfl⟩ := knows_env hkn
   refine r_seq (r_seq (r_region' ?_))
   refine l_q (q_move (v := .int _ _) rfl rfl) ?_
   refine l_q (q_move (v := .slice _ _ _) rfl rfl) ?_
   refine l_q (q_len rfl Tryz.underlying47 rfl rfl) ?_
   refine l_q (q_lss rfl rfl rfl) ?_
   refine l_nil ?_
   refine r_cond rfl (fun hc11 => ?_) (fun hc11 => ?_)
   ·
    replace hc11 := dt hc11
    have hiD : i < D7.length := by omega
    have hti := (tx_ok hJn hDt hiD).2.1
    refine r_skip (r_seq (r_block (r_seq (r_region' ?_))))
    refine l_q (q_assign (v := .bool _) rfl rfl) ?_
    refine l_nil (r_seq (r_seq (r_region' ?_)))
    refine l_q (q_assign (v := .int _ _) rfl rfl) ?_
    refine l_nil (r_block ?_)
    refine r_rounds (α := Nat × Bool) (fun ⟨k, fb⟩ e wl => Knows e [(2, ptr b1 0), (5, vint (wh % 24)), (6, .slice ta7 D7.length tc7), (8, vint (i : Int)), (9, .bool fb), (10, vint (k : Int))] ∧ (k ≤ sl.length) ∧ (fb = seenK sl (wh % 24) (D7.getD i sv0).xs k) ∧ (Blk wl b1 [.slice ka co.length kc, vint er, .slice sa se.length sc, .slice ja sl.length jc, .slice ra rl.length rc]) ∧ (TyAt wl b1 29) ∧ (LgAt wl qka5 qkc5 co qsa5 qsc5 se qja5 qjc5 qsl5 qra5 qrc5 rl) ∧ (Row wl ta7 D7.length tc7 1 (D7.map SV.enc)) ∧ (RowsI wl D7) ∧ (w.heap.size ≤ wl.heap.size) ∧ (Below w.heap.size w wl)) (fun ⟨k, fb⟩ => sl.length - k) (0, false) ?_ ?_
    ·
     exact ⟨⟨rfl, rfl, rfl, rfl, rfl, rfl, trivial⟩, (Nat.zero_le _), rfl, hb1, hty_b1, hlg5, hrt7, hri7, hsz, hB⟩
    ·
     rintro ⟨k, fb⟩ el12 wl12 ⟨hkn, hkk, hf, hb1, hty_b1, hlg5, hrt7, hri7, hsz, hB⟩ ih12
     obtain ⟨e12, rfl⟩ := knows_env hkn
     refine r_seq (r_seq (r_region' ?_))
     refine l_q (q_move (v := .int _ _) rfl rfl) ?_
     refine l_q (q_fieldAddr (o' := 3) rfl fld29_3 rfl) ?_
     refine l_q (q_load Tryz.isAgg26 rfl ((hb1.has (o := 3) rfl)) rfl) ?_
     refine l_q (q_len rfl Tryz.underlying26 rfl rfl) ?_
     refine l_q (q_lss rfl rfl rfl) ?_
     refine l_nil ?_
     refine r_cond rfl (fun hc13 => ?_) (fun hc13 => ?_)
     ·
      replace hc13 := dt hc13
      have hks : k < sl.length := by omega
      have hjx := hjl _ (getD_lt (d := sn00) hks)
      refine r_skip (r_seq (r_block ?_))
      refine r_draw ext_refl' ext_trans' [0, 1, 2, 3, 4, 5, 6, 7, 8, 9, 10, 11, 12, 13, 14, 15, 16, 17, 18, 19, 20, 21, 22, 23, 24] [21] 12 (by kernel_rfl) (by kernel_rfl) ?_
      intro w14 _ hE14
      replace hB := below_ext hB hE14 hsz
      replace hb1 := hb1.ext hE14
      replace hty_b1 := hty_b1.ext hE14
      replace hlg5 := hlg5.ext hE14
      replace hrt7 := hrt7.ext hE14
      replace hri7 := hri7.ext hE14
      replace hsz := Nat.le_trans hsz hE14.size
      refine m_q rfl rfl (fun w' hC' => q_move (v := .bool _) rfl rfl) ?_
      refine m_q rfl rfl (fun w' hC' => q_move (v := .bool _) rfl rfl) ?_
      refine m_part 41 rfl (fun hc15 => ?_) (fun hc15 => ?_)
      ·
       have g41 := hc15
       refine m_q rfl rfl (fun w' hC' => q_skip rfl) ?_
       refine m_q rfl rfl (fun w' hC' => q_skip rfl) ?_
       refine m_q rfl rfl (fun w' hC' => q_skip rfl) ?_
       refine m_q rfl rfl (fun w' hC' => q_skip rfl) ?_
       refine m_q rfl rfl (fun w' hC' => q_skip rfl) ?_
       refine m_q rfl rfl (fun w' hC' => q_skip rfl) ?_
       refine m_q rfl rfl (fun w' hC' => q_skip rfl) ?_
       refine m_q rfl rfl (fun w' hC' => q_skip rfl) ?_
       refine m_q rfl rfl (fun w' hC' => q_skip rfl) ?_
       refine m_q rfl rfl (fun w' hC' => q_skip rfl) ?_
       refine m_q rfl rfl (fun w' hC' => q_skip rfl) ?_
       refine m_q rfl rfl (fun w' hC' => q_skip rfl) ?_
       refine m_q rfl rfl (fun w' hC' => q_skip rfl) ?_
       refine m_q rfl rfl (fun w' hC' => q_skip rfl) ?_
       refine m_q rfl rfl (fun w' hC' => q_skip rfl) ?_
       refine m_q rfl rfl (fun w' hC' => q_skip rfl) ?_
       refine m_q rfl rfl (fun w' hC' => q_skip rfl) ?_
       refine m_q rfl rfl (fun w' hC' => q_skip rfl) ?_
       refine m_q rfl rfl (fun w' hC' => q_skip rfl) ?_
       refine m_o rfl rfl ((q_skip rfl).eff ⟨Ext.refl _, ?_⟩)
       refine m_q rfl rfl (fun w' hC' => q_skip rfl) ?_
       refine m_q rfl rfl (fun w' hC' => q_pick_t (v := .bool _) rfl rfl rfl) ?_
       refine m_q rfl rfl (fun w' hC' => q_assign (v := .bool _) rfl rfl) ?_
       refine m_nil ?_
       refine r_forget [(2, .pointer _), (5, .int _ _), (6, .slice _ _ _), (8, .int _ _), (9, .bool _), (10, .int _ _)] ⟨rfl, rfl, rfl, rfl, rfl, rfl, trivial⟩ (fun e16 => ?_)
       refine r_inBlock (r_region' ?_)
       refine l_q (q_move (v := .int _ _) rfl rfl) ?_
       refine l_q (q_add rfl rfl (by omega) rfl) ?_
       refine l_q (q_assign (v := .int _ _) rfl rfl) ?_
       refine l_nil ?_
       exact ih12 (k + 1, true) _ _ ⟨⟨rfl, rfl, rfl, rfl, rfl, (vint_eq (by omega)), trivial⟩, (by omega), (by rw [seen_succ, ← hf, g41]; rfl), hb1, hty_b1, hlg5, hrt7, hri7, hsz, hB⟩ (by first | omega | (dsimp only; omega))
      ·
       have g41 := hc15
       refine m_q rfl rfl (fun w' hC' => q_fieldAddr (o' := 3) rfl fld29_3 rfl) ?_
       refine m_q rfl rfl (fun w' hC' => q_load Tryz.isAgg26 rfl (((hb1.has (o := 3) rfl).ext hC')) rfl) ?_
       refine m_q rfl rfl (fun w' hC' => q_move (v := .int _ _) rfl rfl) ?_
       obtain ⟨b17, o17, ha17, hh17⟩ := (hlg.rsl.below hB).at (by decide) k (by omega)
       refine m_q rfl rfl (fun w' hC' => q_indexAddr Tryz.underlying26 Tryz.sizeOf69 rfl ha17 rfl (by omega) rfl) ?_
       refine m_q rfl rfl (fun w' hC' => q_fieldAddr (o' := 0) rfl fld69_0 rfl) ?_
       refine m_q rfl rfl (fun w' hC' => q_load Tryz.isAgg3 rfl ((((cells_cast (wide_at SN.len sn00 _ _ (by omega)) hh17) 0 _ rfl).ext hC')) rfl) ?_
       refine m_q rfl rfl (fun w' hC' => q_move (v := .int _ _) rfl rfl) ?_
       refine m_q rfl rfl (fun w' hC' => q_lss rfl rfl rfl) ?_
       refine m_q rfl rfl (fun w' hC' => q_move (v := .bool _) rfl rfl) ?_
       refine m_part 50 rfl (fun hc18 => ?_) (fun hc18 => ?_)
       ·
        replace hc18 := dt hc18
        have g50 := hc18
        refine m_q rfl rfl (fun w' hC' => q_move (v := .slice _ _ _) rfl rfl) ?_
        refine m_q rfl rfl (fun w' hC' => q_move (v := .int _ _) rfl rfl) ?_
        have hr20 := hri7.get (i := i) (by omega)
        obtain ⟨b19, o19, ha19, hh19⟩ := hrt7.at1 i ((D7).getD i sv0) (getD_some (by omega))
        refine m_q rfl rfl (fun w' hC' => q_indexAddr1 Tryz.underlying47 Tryz.sizeOf25 rfl ha19 rfl (by omega) rfl) ?_
        refine m_q rfl rfl (fun w' hC' => q_load Tryz.isAgg25 rfl ((hh19.ext hC')) rfl) ?_
        refine m_q rfl rfl (fun w' hC' => q_fieldAddr (o' := 3) rfl fld29_3 rfl) ?_
        refine m_q rfl rfl (fun w' hC' => q_load Tryz.isAgg26 rfl (((hb1.has (o := 3) rfl).ext hC')) rfl) ?_
        refine m_q rfl rfl (fun w' hC' => q_move (v := .int _ _) rfl rfl) ?_
        obtain ⟨b21, o21, ha21, hh21⟩ := (hlg.rsl.below hB).at (by decide) k (by omega)
        refine m_q rfl rfl (fun w' hC' => q_indexAddr Tryz.underlying26 Tryz.sizeOf69 rfl ha21 rfl (by omega) rfl) ?_
        refine m_q rfl rfl (fun w' hC' => q_fieldAddr (o' := 2) rfl fld69_2 rfl) ?_
        refine m_q rfl rfl (fun w' hC' => q_load Tryz.isAgg25 rfl ((((cells_cast (wide_at SN.len sn00 _ _ (by omega)) hh21) 2 _ rfl).ext hC')) rfl) ?_
        refine m_o rfl rfl (o_call Tryz.call44 rfl (isPart6_ret _ _ (((D7).getD i sv0).xs) _ _ (((sl).getD k sn00).xs) _ hr20 (by omega) ((RowsS.get (hlg.rslr) (i := k) (by omega)).below hB) (by omega)) rfl ?_)
        rintro _ w22 ⟨rfl, hE22⟩
        refine ⟨hE22, ?_⟩
        replace hB := below_ext hB hE22 hsz
        replace hb1 := hb1.ext hE22
        replace hty_b1 := hty_b1.ext hE22
        replace hlg5 := hlg5.ext hE22
        replace hrt7 := hrt7.ext hE22
        replace hri7 := hri7.ext hE22
        replace hsz := Nat.le_trans hsz hE22.size
        refine m_q rfl rfl (fun w' hC' => q_pick_t (v := .bool _) rfl rfl rfl) ?_
        refine m_q rfl rfl (fun w' hC' => q_pick_f (v := .bool _) rfl rfl rfl) ?_
        refine m_q rfl rfl (fun w' hC' => q_assign (v := .bool _) rfl rfl) ?_
        refine m_nil ?_
        refine r_forget [(2, .pointer _), (5, .int _ _), (6, .slice _ _ _), (8, .int _ _), (9, .bool _), (10, .int _ _)] ⟨rfl, rfl, rfl, rfl, rfl, rfl, trivial⟩ (fun e23 => ?_)
        refine r_inBlock (r_region' ?_)
        refine l_q (q_move (v := .int _ _) rfl rfl) ?_
        refine l_q (q_add rfl rfl (by omega) rfl) ?_
        refine l_q (q_assign (v := .int _ _) rfl rfl) ?_
        refine l_nil ?_
        exact ih12 (k + 1, partB (((D7).getD i sv0).xs) (((sl).getD k sn00).xs)) _ _ ⟨⟨rfl, rfl, rfl, rfl, rfl, (vint_eq (by omega)), trivial⟩, (by omega), (by rw [seen_succ, ← hf, g41, decide_eq_true g50]; rfl), hb1, hty_b1, hlg5, hrt7, hri7, hsz, hB⟩ (by first | omega | (dsimp only; omega))
       ·
        replace hc18 := dlt hc18
        have g50 := hc18
        refine m_q rfl rfl (fun w' hC' => q_skip rfl) ?_
        refine m_q rfl rfl (fun w' hC' => q_skip rfl) ?_
        refine m_q rfl rfl (fun w' hC' => q_skip rfl) ?_
        refine m_q rfl rfl (fun w' hC' => q_skip rfl) ?_
        refine m_q rfl rfl (fun w' hC' => q_skip rfl) ?_
        refine m_q rfl rfl (fun w' hC' => q_skip rfl) ?_
        refine m_q rfl rfl (fun w' hC' => q_skip rfl) ?_
        refine m_q rfl rfl (fun w' hC' => q_skip rfl) ?_
        refine m_q rfl rfl (fun w' hC' => q_skip rfl) ?_
        refine m_q rfl rfl (fun w' hC' => q_skip rfl) ?_
        refine m_o rfl rfl ((q_skip rfl).eff ⟨Ext.refl _, ?_⟩)
        refine m_q rfl rfl (fun w' hC' => q_pick_f (v := .bool _) rfl rfl rfl) ?_
        refine m_q rfl rfl (fun w' hC' => q_pick_f (v := .bool _) rfl rfl rfl) ?_
        refine m_q rfl rfl (fun w' hC' => q_assign (v := .bool _) rfl rfl) ?_
        refine m_nil ?_
        refine r_forget [(2, .pointer _), (5, .int _ _), (6, .slice _ _ _), (8, .int _ _), (9, .bool _), (10, .int _ _)] ⟨rfl, rfl, rfl, rfl, rfl, rfl, trivial⟩ (fun e24 => ?_)
        refine r_inBlock (r_region' ?_)
        refine l_q (q_move (v := .int _ _) rfl rfl) ?_
        refine l_q (q_add rfl rfl (by omega) rfl) ?_
        refine l_q (q_assign (v := .int _ _) rfl rfl) ?_
        refine l_nil ?_
        exact ih12 (k + 1, false) _ _ ⟨⟨rfl, rfl, rfl, rfl, rfl, (vint_eq (by omega)), trivial⟩, (by omega), (by rw [seen_succ, ← hf, g41, decide_eq_false (by omega)]; rfl), hb1, hty_b1, hlg5, hrt7, hri7, hsz, hB⟩ (by first | omega | (dsimp only; omega))
     ·
      replace hc13 := dlt hc13
      refine r_exit rfl ?_
      refine r_seq ?_
      refine r_draw ext_refl' ext_trans' [0, 1, 2, 3, 4, 5, 6, 7, 8, 9, 10, 11, 12, 13, 14, 16, 15, 17, 18, 19, 20, 21, 22, 23, 24, 25, 26, 27, 28, 29, 30, 32, 31, 33, 34, 35, 36, 37] [15, 17, 31, 33] 20 (by kernel_rfl) (by kernel_rfl) ?_
      intro w25 _ hE25
      replace hB := below_ext hB hE25 hsz
      replace hb1 := hb1.ext hE25
      replace hty_b1 := hty_b1.ext hE25
      replace hlg5 := hlg5.ext hE25
      replace hrt7 := hrt7.ext hE25
      replace hri7 := hri7.ext hE25
      replace hsz := Nat.le_trans hsz hE25.size
      refine m_q rfl rfl (fun w' hC' => q_move (v := .bool _) rfl rfl) ?_
      refine m_q rfl rfl (fun w' hC' => q_not rfl rfl) ?_
      refine m_q rfl rfl (fun w' hC' => q_move (v := .bool _) rfl rfl) ?_
      have hk26 : (!fb) = false := by rw [hf, show k = sl.length by omega, seen_all (tx_mem hDt hiD)]; rfl
      refine m_part 66 rfl (fun hx => absurd (hk26.symm.trans hx) (by decide)) (fun _ => ?_)
      refine m_q rfl rfl (fun w' hC' => q_move (v := .slice _ _ _) rfl rfl) ?_
      refine m_q rfl rfl (fun w' hC' => q_move (v := .int _ _) rfl rfl) ?_
      have hr28 := hri7.get (i := i) (by omega)
      obtain ⟨b27, o27, ha27, hh27⟩ := hrt7.at1 i ((D7).getD i sv0) (getD_some (by omega))
      refine m_q rfl rfl (fun w' hC' => q_indexAddr1 Tryz.underlying47 Tryz.sizeOf25 rfl ha27 rfl (by omega) rfl) ?_
      refine m_q rfl rfl (fun w' hC' => q_load Tryz.isAgg25 rfl ((hh27.ext hC')) rfl) ?_
      refine m_q rfl rfl (fun w' hC' => q_len rfl Tryz.underlying25 rfl rfl) ?_
      refine m_q rfl rfl (fun w' hC' => q_gtr rfl rfl rfl) ?_
      refine m_q rfl rfl (fun w' hC' => q_move (v := .bool _) rfl rfl) ?_
      refine m_part 73 rfl (fun hc29 => ?_) (fun hc29 => ?_)
      ·
       replace hc29 := dt hc29
       have g72 : 1 < (D7.getD i sv0).xs.length := by have := hc29; omega
       refine m_q rfl rfl (fun w' hC' => q_move (v := .slice _ _ _) rfl rfl) ?_
       refine m_q rfl rfl (fun w' hC' => q_move (v := .int _ _) rfl rfl) ?_
       have hr31 := hri7.get (i := i) (by omega)
       obtain ⟨b30, o30, ha30, hh30⟩ := hrt7.at1 i ((D7).getD i sv0) (getD_some (by omega))
       refine m_q rfl rfl (fun w' hC' => q_indexAddr1 Tryz.underlying47 Tryz.sizeOf25 rfl ha30 rfl (by omega) rfl) ?_
       refine m_q rfl rfl (fun w' hC' => q_load Tryz.isAgg25 rfl ((hh30.ext hC')) rfl) ?_
       obtain ⟨a32, c32, hr32, hv32⟩ := slice_ex_lo (f := vint) (xs := ((D7).getD i sv0).xs) (1) hr31 (by omega)
       refine m_q rfl rfl (fun w' hC' => (q_slice (lo := 1) (hi := (((D7).getD i sv0).xs.length : Int)) Tryz.underlying25 Tryz.sizeOf3 rfl rfl rfl (by omega) hr31.2.1 rfl).cast hv32) ?_
       refine m_q rfl rfl (fun w' hC' => q_move (v := .slice _ _ _) rfl rfl) ?_
       refine m_o rfl rfl (o_buildSlice (el := 25) (cs := [.slice a32 (((((D7).getD i sv0).xs).drop 1).length) c32]) Tryz.underlying47 el25 (by decide) (by kernel_rfl) rfl (by decide) rfl ?_)
       intro b33 w33 hzl33 hzr33 _ hb33 hE33 ho33
       refine ⟨hE33, ?_⟩
       have hne_b1_b33 : b1 ≠ b33 := by have := hb1.lt; omega
       have hbs_b33 : w.heap.size ≤ b33 := Nat.le_trans hsz hzl33
       replace hB := below_ext hB hE33 hsz
       replace hb1 := hb1.ext hE33
       replace hty_b1 := hty_b1.ext hE33
       replace hlg5 := hlg5.ext hE33
       replace hrt7 := hrt7.ext hE33
       replace hri7 := hri7.ext hE33
       replace hr32 := hr32.ext hE33
       replace hsz := Nat.le_trans hsz hE33.size
       have hil1 : ∀ s ∈ ([⟨a32, c32, (((D7).getD i sv0).xs).drop 1⟩] : List SV), s.xs.length ≤ 2097152 := fun s hs => by
         have := (tx_ok hJn hDt hiD).2.1
         have e := List.mem_singleton.1 hs
         subst e
         simp only [List.length_drop, List.length_take]
         omega
       refine m_o rfl rfl (o_call Tryz.call40 rfl (inside6_ret _ _ ([⟨a32, c32, (((D7).getD i sv0).xs).drop 1⟩] : List SV) _ _ D7 _ (Row.of_owns ho33) ((RowsI.nil _).snoc hr32) (Nat.le_of_ble_eq_true rfl) hil1 hrt7 hri7 (by omega) hDx) rfl ?_)
       rintro _ w34 ⟨rfl, hE34⟩
       refine ⟨hE34, ?_⟩
       replace hB := below_ext hB hE34 hsz
       replace hb1 := hb1.ext hE34
       replace hty_b1 := hty_b1.ext hE34
       replace hlg5 := hlg5.ext hE34
       replace hrt7 := hrt7.ext hE34
       replace hri7 := hri7.ext hE34
       replace hsz := Nat.le_trans hsz hE34.size
       refine m_q rfl rfl (fun w' hC' => q_not rfl rfl) ?_
       refine m_q rfl rfl (fun w' hC' => q_move (v := .bool _) rfl rfl) ?_
       have hk35 : (!(insideB (([⟨a32, c32, (((D7).getD i sv0).xs).drop 1⟩] : List SV).map (·.xs)) (D7.map (·.xs)))) = false := by exact congrArg (fun x => !x) (inside_tail hDt hiD g72)
       refine m_part 83 rfl (fun hx => absurd (hk35.symm.trans hx) (by decide)) (fun _ => ?_)
       refine m_q rfl rfl (fun w' hC' => q_move (v := .slice _ _ _) rfl rfl) ?_
       refine m_q rfl rfl (fun w' hC' => q_move (v := .int _ _) rfl rfl) ?_
       have hr37 := hri7.get (i := i) (by omega)
       obtain ⟨b36, o36, ha36, hh36⟩ := hrt7.at1 i ((D7).getD i sv0) (getD_some (by omega))
       refine m_q rfl rfl (fun w' hC' => q_indexAddr1 Tryz.underlying47 Tryz.sizeOf25 rfl ha36 rfl (by omega) rfl) ?_
       refine m_q rfl rfl (fun w' hC' => q_load Tryz.isAgg25 rfl ((hh36.ext hC')) rfl) ?_
       refine m_q rfl rfl (fun w' hC' => q_move (v := .slice _ _ _) rfl rfl) ?_
       refine m_q rfl rfl (fun w' hC' => q_move (v := .int _ _) rfl rfl) ?_
       have hr39 := hri7.get (i := i) (by omega)
       obtain ⟨b38, o38, ha38, hh38⟩ := hrt7.at1 i ((D7).getD i sv0) (getD_some (by omega))
       refine m_q rfl rfl (fun w' hC' => q_indexAddr1 Tryz.underlying47 Tryz.sizeOf25 rfl ha38 rfl (by omega) rfl) ?_
       refine m_q rfl rfl (fun w' hC' => q_load Tryz.isAgg25 rfl ((hh38.ext hC')) rfl) ?_
       refine m_q rfl rfl (fun w' hC' => q_len rfl Tryz.underlying25 rfl rfl) ?_
       refine m_q rfl rfl (fun w' hC' => q_sub rfl rfl (by omega) rfl) ?_
       obtain ⟨a40, c40, hr40, hv40⟩ := slice_ex_hi (f := vint) (xs := ((D7).getD i sv0).xs) ((((D7).getD i sv0).xs.length : Int) - 1) hr37 (by omega)
       refine m_q rfl rfl (fun w' hC' => (q_slice (lo := 0) (hi := (((D7).getD i sv0).xs.length : Int) - 1) Tryz.underlying25 Tryz.sizeOf3 rfl rfl rfl (by omega) hr37.2.1 rfl).cast hv40) ?_
       refine m_q rfl rfl (fun w' hC' => q_move (v := .slice _ _ _) rfl rfl) ?_
       refine m_o rfl rfl (o_buildSlice (el := 25) (cs := [.slice a40 (((((D7).getD i sv0).xs).take ((((D7).getD i sv0).xs.length : Int) - 1).toNat).length) c40]) Tryz.underlying47 el25 (by decide) (by kernel_rfl) rfl (by decide) rfl ?_)
       intro b41 w41 hzl41 hzr41 _ hb41 hE41 ho41
       refine ⟨hE41, ?_⟩
       have hne_b1_b41 : b1 ≠ b41 := by have := hb1.lt; omega
       have hbs_b41 : w.heap.size ≤ b41 := Nat.le_trans hsz hzl41
       replace hB := below_ext hB hE41 hsz
       replace hb1 := hb1.ext hE41
       replace hty_b1 := hty_b1.ext hE41
       replace hlg5 := hlg5.ext hE41
       replace hrt7 := hrt7.ext hE41
       replace hri7 := hri7.ext hE41
       replace hr40 := hr40.ext hE41
       replace hsz := Nat.le_trans hsz hE41.size
       have hil2 : ∀ s ∈ ([⟨a40, c40, (((D7).getD i sv0).xs).take ((((D7).getD i sv0).xs.length : Int) - 1).toNat⟩] : List SV), s.xs.length ≤ 2097152 := fun s hs => by
         have := (tx_ok hJn hDt hiD).2.1
         have e := List.mem_singleton.1 hs
         subst e
         simp only [List.length_drop, List.length_take]
         omega
       refine m_o rfl rfl (o_call Tryz.call40 rfl (inside6_ret _ _ ([⟨a40, c40, (((D7).getD i sv0).xs).take ((((D7).getD i sv0).xs.length : Int) - 1).toNat⟩] : List SV) _ _ D7 _ (Row.of_owns ho41) ((RowsI.nil _).snoc hr40) (Nat.le_of_ble_eq_true rfl) hil2 hrt7 hri7 (by omega) hDx) rfl ?_)
       rintro _ w42 ⟨rfl, hE42⟩
       refine ⟨hE42, ?_⟩
       replace hB := below_ext hB hE42 hsz
       replace hb1 := hb1.ext hE42
       replace hty_b1 := hty_b1.ext hE42
       replace hlg5 := hlg5.ext hE42
       replace hrt7 := hrt7.ext hE42
       replace hri7 := hri7.ext hE42
       replace hsz := Nat.le_trans hsz hE42.size
       refine m_q rfl rfl (fun w' hC' => q_not rfl rfl) ?_
       refine m_q rfl rfl (fun w' hC' => q_pick_f (v := .bool _) rfl rfl rfl) ?_
       refine m_q rfl rfl (fun w' hC' => q_pick_t (v := .bool _) rfl rfl rfl) ?_
       refine m_q rfl rfl (fun w' hC' => q_pick_f (v := .bool _) rfl rfl rfl) ?_
       refine m_nil ?_
       refine r_forget [(2, .pointer _), (5, .int _ _), (6, .slice _ _ _), (8, .int _ _), (101, .bool _)] ⟨rfl, rfl, rfl, rfl, rfl, trivial⟩ (fun e43 => ?_)
       have hk44 : (!(insideB (([⟨a40, c40, (((D7).getD i sv0).xs).take ((((D7).getD i sv0).xs.length : Int) - 1).toNat⟩] : List SV).map (·.xs)) (D7.map (·.xs)))) = false := by exact congrArg (fun x => !x) (inside_init hDt hiD g72 (by omega))
       refine r_cond_f ((congrArg Value.bool hk44 : Value.bool _ = _)) ?_
       refine r_skip (r_inBlock (r_region' ?_))
       refine l_q (q_move (v := .int _ _) rfl rfl) ?_
       refine l_q (q_add rfl rfl (by omega) rfl) ?_
       refine l_q (q_assign (v := .int _ _) rfl rfl) ?_
       refine l_nil ?_
       exact ih10 (i + 1) _ _ ⟨⟨rfl, rfl, rfl, (vint_eq (by omega)), trivial⟩, (by omega), hb1, hty_b1, hlg5, hrt7, hri7, hsz, hB⟩ (by first | omega | (dsimp only; omega))
      ·
       replace hc29 := dlt hc29
       refine m_q rfl rfl (fun w' hC' => q_skip rfl) ?_
       refine m_q rfl rfl (fun w' hC' => q_skip rfl) ?_
       refine m_q rfl rfl (fun w' hC' => q_skip rfl) ?_
       refine m_q rfl rfl (fun w' hC' => q_skip rfl) ?_
       refine m_q rfl rfl (fun w' hC' => q_skip rfl) ?_
       refine m_q rfl rfl (fun w' hC' => q_skip rfl) ?_
       refine m_o rfl rfl ((q_skip rfl).eff ⟨Ext.refl _, ?_⟩)
       refine m_o rfl rfl ((q_skip rfl).eff ⟨Ext.refl _, ?_⟩)
       refine m_q rfl rfl (fun w' hC' => q_skip rfl) ?_
       refine m_q rfl rfl (fun w' hC' => q_skip rfl) ?_
       refine m_q rfl rfl (fun w' hC' => q_skip rfl) ?_
       refine m_q rfl rfl (fun w' hC' => q_skip rfl) ?_
       refine m_q rfl rfl (fun w' hC' => q_skip rfl) ?_
       refine m_q rfl rfl (fun w' hC' => q_skip rfl) ?_
       refine m_q rfl rfl (fun w' hC' => q_skip rfl) ?_
       refine m_q rfl rfl (fun w' hC' => q_skip rfl) ?_
       refine m_q rfl rfl (fun w' hC' => q_skip rfl) ?_
       refine m_q rfl rfl (fun w' hC' => q_skip rfl) ?_
       refine m_q rfl rfl (fun w' hC' => q_skip rfl) ?_
       refine m_q rfl rfl (fun w' hC' => q_skip rfl) ?_
       refine m_q rfl rfl (fun w' hC' => q_skip rfl) ?_
       refine m_q rfl rfl (fun w' hC' => q_skip rfl) ?_
       refine m_o rfl rfl ((q_skip rfl).eff ⟨Ext.refl _, ?_⟩)
       refine m_o rfl rfl ((q_skip rfl).eff ⟨Ext.refl _, ?_⟩)
       refine m_q rfl rfl (fun w' hC' => q_skip rfl) ?_
       refine m_q rfl rfl (fun w' hC' => q_skip rfl) ?_
       refine m_q rfl rfl (fun w' hC' => q_pick_f (v := .bool _) rfl rfl rfl) ?_
       refine m_q rfl rfl (fun w' hC' => q_pick_f (v := .bool _) rfl rfl rfl) ?_
       refine m_nil ?_
       refine r_forget [(2, .pointer _), (5, .int _ _), (6, .slice _ _ _), (8, .int _ _), (101, .bool _)] ⟨rfl, rfl, rfl, rfl, rfl, trivial⟩ (fun e45 => ?_)
       refine r_cond_f rfl ?_
       refine r_skip (r_inBlock (r_region' ?_))
       refine l_q (q_move (v := .int _ _) rfl rfl) ?_
       refine l_q (q_add rfl rfl (by omega) rfl) ?_
       refine l_q (q_assign (v := .int _ _) rfl rfl) ?_
       refine l_nil ?_
       exact ih10 (i + 1) _ _ ⟨⟨rfl, rfl, rfl, (vint_eq (by omega)), trivial⟩, (by omega), hb1, hty_b1, hlg5, hrt7, hri7, hsz, hB⟩ (by first | omega | (dsimp only; omega))
   ·
    replace hc11 := dlt hc11
    refine r_exit rfl ?_
    refine r_seq (r_region' ?_)
    refine l_o (o_call Tryz.call18 rfl (awake6_ret _) rfl ?_)
    rintro _ w46 ⟨rfl, hE46⟩
    replace hB := below_ext hB hE46 hsz
    replace hsz := Nat.le_trans hsz hE46.size
    refine l_q (q_assign (v := .bool _) rfl rfl) ?_
    refine l_nil ?_
    refine r_ret_ (vs := [.bool _]) rfl Tryz.func12 rfl (.nil _) ⟨rfl, trivial⟩ ?_
    exact ⟨rfl, Ext.of_below hB⟩
end Go.Proofs.YtekkdhpgcilpdaaGreat
