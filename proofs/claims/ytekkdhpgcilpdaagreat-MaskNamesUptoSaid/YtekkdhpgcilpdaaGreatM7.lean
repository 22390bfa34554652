/- Contracts. -/
import Derived.Test.YtekkdhpgcilpdaaGreatMW
set_option linter.unusedVariables false
set_option linter.unusedSimpArgs false
namespace Go.Proofs.YtekkdhpgcilpdaaGreat
open Go Go.RowKit Go.Gv Go.Fl

theorem el127 : Elem Tryz.prog 127 (.agg ⟨[.nilFunc]⟩) 1 8 := elem_of (by kernel_rfl) rfl (by decide)
theorem fld127_0 (w : World) (b o : Nat) : (Instr.fieldAt 127 (ptr b o) 0).run Tryz.prog w = .ok (ptr b (o + 0)) w := by
  simp [Instr.fieldAt, run_underlying Tryz.underlying127, fieldPlace, Instr.sureAddr, Tryz.sizeOf125, Addr.add_lit]
theorem fld96_2 (w : World) (b o : Nat) : (Instr.fieldAt 96 (ptr b o) 2).run Tryz.prog w = .ok (ptr b (o + 6)) w := by
  simp [Instr.fieldAt, run_underlying Tryz.underlying96, fieldPlace, Instr.sureAddr, Tryz.sizeOf94, Addr.add_lit]
theorem fld96_1 (w : World) (b o : Nat) : (Instr.fieldAt 96 (ptr b o) 1).run Tryz.prog w = .ok (ptr b (o + 5)) w := by
  simp [Instr.fieldAt, run_underlying Tryz.underlying96, fieldPlace, Instr.sureAddr, Tryz.sizeOf93, Addr.add_lit]
theorem pairTy : PairTy Tryz.prog 130 3 := ⟨⟨_, _, Tryz.underlying130, ⟨by decide, rfl, rfl⟩, ⟨by decide, rfl, rfl⟩⟩, ⟨_, Tryz.underlying3⟩, Tryz.isAgg3, Tryz.isAgg130, Tryz.sizeOf130, by kernel_rfl, by kernel_rfl, by kernel_rfl⟩
theorem src0_ret (ka : Option Addr) (kc : Nat) (co : List Sg) (er : Int) (sa : Option Addr) (sc : Nat) (se : List Int) (ja : Option Addr) (jc : Nat) (sl : List SN) (ra : Option Addr) (rc : Nat) (rl : List RC) (n : Nat) (w : World) (hlg : LgAt w ka kc co sa sc se ja jc sl ra rc rl) (hbg : LgBig co er se sl rl) (hok : faultM (lg co er se sl rl) = 0) (hn : n < rl.length) : Ret Tryz.prog 94 [.agg ⟨[.slice ka co.length kc, vint er, .slice sa se.length sc, .slice ja sl.length jc, .slice ra rl.length rc]⟩, vint (n : Int)] w (fun v w' => ∃ X xa xc, v = .slice xa (List.length X) xc ∧ Row w' xa (List.length X) xc 1 (X.map vint) ∧ X = ownL (lg co er se sl rl) (rl.getD n rcd0) ∧ Ext w w') := (mstations_ret ka kc co er sa sc se ja jc sl ra rc rl n w hlg hbg hok hn).mono (fun v w1 h => by obtain ⟨a, c, rfl, h1, hE⟩ := h; exact ⟨_, a, c, rfl, Row.of_owns h1, rfl, hE⟩)
theorem src1_ret (ka : Option Addr) (kc : Nat) (co : List Sg) (er : Int) (sa : Option Addr) (sc : Nat) (se : List Int) (ja : Option Addr) (jc : Nat) (sl : List SN) (ra : Option Addr) (rc : Nat) (rl : List RC) (n : Nat) (w : World) (hlg : LgAt w ka kc co sa sc se ja jc sl ra rc rl) (hbg : LgBig co er se sl rl) (hok : faultM (lg co er se sl rl) = 0) (hn : n < rl.length) : Ret Tryz.prog 95 [.agg ⟨[.slice ka co.length kc, vint er, .slice sa se.length sc, .slice ja sl.length jc, .slice ra rl.length rc]⟩, vint (n : Int)] w (fun v w' => ∃ X xa xc, v = .slice xa (List.length X) xc ∧ Row w' xa (List.length X) xc 1 (X.map vint) ∧ X = falL (lg co er se sl rl) (rl.getD n rcd0) ∧ Ext w w') := (mfalsely_ret ka kc co er sa sc se ja jc sl ra rc rl n w hlg hbg hok hn).mono (fun v w1 h => by obtain ⟨a, c, rfl, h1, hE⟩ := h; exact ⟨_, a, c, rfl, h1, rfl, hE⟩)
theorem mwork_ret (ka : Option Addr) (kc : Nat) (co : List Sg) (er : Int) (sa : Option Addr) (sc : Nat) (se : List Int) (ja : Option Addr) (jc : Nat) (sl : List SN) (ra : Option Addr) (rc : Nat) (rl : List RC) (w : World) (hlg : LgAt w ka kc co sa sc se ja jc sl ra rc rl) (hbg : LgBig co er se sl rl) (hok : faultM (lg co er se sl rl) = 0) : Ret Tryz.prog 65 [.agg ⟨[.slice ka co.length kc, vint er, .slice sa se.length sc, .slice ja sl.length jc, .slice ra rl.length rc]⟩] w (fun v w' => ∃ wb m1 m2 R, v = ptr wb 0 ∧ Blk w' wb [.slice ka co.length kc, vint er, .slice sa se.length sc, .slice ja sl.length jc, .slice ra rl.length rc, .map (some m1), .map (some m2)] ∧ TyAt w' wb 96 ∧ WkMaps w' m1 m2 R (rl.map (candL (lg co er se sl rl))) ∧ RowsI w' R ∧ R.map (·.xs) = rl.map (ownL (lg co er se sl rl)) ∧ Ext w w') := by
 obtain ⟨⟨hcn, hcl⟩, hen, hsn, ⟨hjn, hjl⟩, hrn, hrl⟩ := id hbg
 obtain ⟨⟨hs1, hs4⟩, hj8, hr6, hf0, ⟨he0, he3⟩, hsr, hJn, hRn⟩ := lg_ok hok
 have hB := Below.refl w.heap.size w
 have hsz : w.heap.size ≤ w.heap.size := Nat.le_refl _
 refine ret_of_runs (args := [_]) Tryz.func65 rfl (Nat.le_of_ble_eq_true rfl) (by kernel_rfl) (r_seq (r_region' (l_o (o_boxt rfl rfl rfl ?_))))
 intro b1 w1 hzl1 hzr1 _ hb1 hty_b1 hE1
 have hbs_b1 : w.heap.size ≤ b1 := Nat.le_trans hsz hzl1
 replace hB := below_ext hB hE1 hsz
 replace hsz := Nat.le_trans hsz hE1.size
 refine l_q (q_assign (v := .pointer none) rfl rfl) (l_nil (r_seq (r_region' (l_q (q_load_agg (n := 5) Tryz.isAgg38 Tryz.sizeOf38 rfl ((hb1.cells' (cs' := [_, _, _, _, _]) 0 5 rfl)) rfl rfl) (l_o (o_makeMap rfl ?_))))))
 intro m1 w2 hml_m1 hmr_m1 hm1 hE2
 have hbs_m1 : w.heap.size ≤ m1 := Nat.le_trans hsz hml_m1
 have hbm_b1_m1 : b1 < m1 := Nat.lt_of_lt_of_le hb1.lt hml_m1
 replace hB := below_ext hB hE2 hsz
 replace hb1 := hb1.ext hE2
 replace hty_b1 := hty_b1.ext hE2
 replace hsz := Nat.le_trans hsz hE2.size
 refine l_o (o_makeMap rfl ?_)
 intro m2 w3 hml_m2 hmr_m2 hm2 hE3
 have hbs_m2 : w.heap.size ≤ m2 := Nat.le_trans hsz hml_m2
 have hbm_b1_m2 : b1 < m2 := Nat.lt_of_lt_of_le hb1.lt hml_m2
 replace hB := below_ext hB hE3 hsz
 replace hb1 := hb1.ext hE3
 replace hty_b1 := hty_b1.ext hE3
 replace hm1 := hm1.ext hE3
 replace hsz := Nat.le_trans hsz hE3.size
 have hm12 : m1 < m2 := by omega
 have hWk : WkMaps w3 m1 m2 [] [] := ⟨hm12, _, _, _, _, hm1, HoldsK.nil.congr (fun i => (if_neg (fun h => h.2 rfl)).symm), hm2, HoldsK.nil.congr (fun i => (if_neg (fun h => by simp at h)).symm)⟩
 refine l_q (q_build (v := .agg ⟨[.slice ka co.length kc, vint er, .slice sa se.length sc, .slice ja sl.length jc, .slice ra rl.length rc, .map (some m1), .map (some m2)]⟩) (fun w => by kernel_rfl) rfl) (l_o (o_boxt rfl rfl rfl ?_))
 intro b4 w4 hzl4 hzr4 _ hb4 hty_b4 hE4
 have hne_b1_b4 : b1 ≠ b4 := by have := hb1.lt; omega
 have hmw_b4 : m2 < b4 := Nat.lt_of_lt_of_le hWk.lt hzl4
 have hbs_b4 : w.heap.size ≤ b4 := Nat.le_trans hsz hzl4
 replace hB := below_ext hB hE4 hsz
 replace hb1 := hb1.ext hE4
 replace hty_b1 := hty_b1.ext hE4
 replace hWk := hWk.ext hE4
 replace hsz := Nat.le_trans hsz hE4.size
 refine l_q (q_assign (v := .pointer _) rfl rfl) (l_nil (r_seq (r_seq (r_region' (l_q (q_fieldAddr (o' := 4) rfl fld38_4 rfl) (l_q (q_load Tryz.isAgg36 rfl ((hb1.has (o := 4) rfl)) rfl) (l_q (q_len rfl Tryz.underlying36 rfl rfl) (l_q (qmi rfl rfl) (l_nil (r_block ?_))))))))))
 refine r_rounds (α := Nat × (List SV) × (List (List Int))) (fun ⟨k, R, C⟩ e wl => Knows e [(1, ptr b1 0), (3, ptr b4 0), (16, vint (rl.length : Int)), (17, vint (k : Int))] ∧ (k ≤ rl.length) ∧ (R.map (·.xs) = (rl.take k).map (ownL (lg co er se sl rl))) ∧ (C = (rl.take k).map (candL (lg co er se sl rl))) ∧ (WkMaps wl m1 m2 R C) ∧ (RowsI wl R) ∧ (Blk wl b1 [.slice ka co.length kc, vint er, .slice sa se.length sc, .slice ja sl.length jc, .slice ra rl.length rc]) ∧ (TyAt wl b1 38) ∧ (Blk wl b4 [.slice ka co.length kc, vint er, .slice sa se.length sc, .slice ja sl.length jc, .slice ra rl.length rc, .map (some m1), .map (some m2)]) ∧ (TyAt wl b4 96) ∧ (w.heap.size ≤ wl.heap.size) ∧ (Below w.heap.size w wl)) (fun ⟨k, R, C⟩ => rl.length - k) ⟨0, [], []⟩ ?_ ?_
 ·
  exact ⟨⟨rfl, rfl, rfl, rfl, trivial⟩, (by omega), rfl, rfl, hWk, (RowsI.nil_ _), hb1, hty_b1, hb4, hty_b4, hsz, hB⟩
 ·
  rintro ⟨k, R, C⟩ el5 wl5 ⟨hkn, hk, hRm, hCm, hWk, hRr, hb1, hty_b1, hb4, hty_b4, hsz, hB⟩ ih5
  obtain ⟨e5, rfl⟩ := knows_env hkn
  refine r_seq (r_region' (l_q (q_lss rfl rfl rfl) (l_nil (r_seq (r_cond rfl (fun hc6 => ?_) (fun hc6 => ?_))))))
  ·
   replace hc6 := dt hc6
   refine r_skip (r_seq (r_block (r_seq ?_)))
   have hkR : k < rl.length := by omega
   have hszB : w.heap.size ≤ wl5.heap.size := hsz
   have hmB : m2 < wl5.heap.size := hWk.lt
   have hlow := rows_low hRr
   replace hWk := hWk.start
   have hRl : R.length = k := by have := congrArg List.length hRm; rw [List.length_map, List.length_map, List.length_take] at this; omega
   have hCl : C.length = k := by have := congrArg List.length hCm; rw [List.length_map, List.length_take] at this; omega
   have hs : wl5.ownsRow wl5.heap.size 3 1 (.slice sv0.a (sv0.xs).length sv0.c) (sv0.xs).length ((sv0.xs).map vint) := World.ownsRow_nil _ _ _ _
   have hszq : wl5.heap.size ≤ wl5.heap.size := Nat.le_refl _
   refine r_region' (l_q (qmi rfl rfl) (l_q (qai rfl rfl) (l_nil (r_seq (r_region' (l_q (q_build (v := .agg ⟨[.func (.func 94) ⟨[]⟩ ⟨[]⟩]⟩) (fun w => by kernel_rfl) rfl) (l_q (q_build (v := .agg ⟨[.func (.func 95) ⟨[]⟩ ⟨[]⟩]⟩) (fun w => by kernel_rfl) rfl) (l_o (o_buildSlice (el := 127) (cs := [.func (.func 94) ⟨[]⟩ ⟨[]⟩, .func (.func 95) ⟨[]⟩ ⟨[]⟩]) Tryz.underlying128 el127 (by decide) (by kernel_rfl) rfl (by decide) rfl ?_)))))))))
   intro b7 w7 hzl7 hzr7 _ hb7 hE7 ho7
   have hne_b1_b7 : b1 ≠ b7 := by have := hb1.lt; omega
   have hne_b4_b7 : b4 ≠ b7 := by have := hb4.lt; omega
   have hqb_b7 := Nat.le_trans hszq hzl7
   have hmw_b7 : m2 < b7 := Nat.lt_of_lt_of_le hWk.lt hzl7
   have hbs_b7 : w.heap.size ≤ b7 := Nat.le_trans hsz hzl7
   replace hB := below_ext hB hE7 hsz
   replace hb1 := hb1.ext hE7
   replace hty_b1 := hty_b1.ext hE7
   replace hWk := hWk.ext hE7
   replace hb4 := hb4.ext hE7
   replace hty_b4 := hty_b4.ext hE7
   replace hRr := hRr.ext hE7
   replace hszq := Nat.le_trans hszq hE7.size
   replace hs := own_ext hs hE7
   replace hsz := Nat.le_trans hsz hE7.size
   refine l_q (q_len rfl Tryz.underlying128 rfl rfl) (l_q (qmi rfl rfl) (l_nil (r_block ?_)))
   refine r_rounds (α := Nat × SV × (List Int)) (fun ⟨j, s, cl⟩ e wl => Knows e [(1, ptr b1 0), (3, ptr b4 0), (4, vint (k : Int)), (16, vint (rl.length : Int)), (17, vint (k : Int)), (22, .slice (some ⟨b7, 0, none⟩) 2 2), (23, vint 2), (24, vint (j : Int))] ∧ (j ≤ 2) ∧ (s.xs = [] → s = sv0) ∧ (s.xs = preS (lg co er se sl rl) (rl.getD k rcd0) j) ∧ (cl = preC (lg co er se sl rl) (rl.getD k rcd0) j) ∧ (WkMaps wl m1 m2 (R ++ [s]) (C ++ [cl])) ∧ (wl.ownsRow wl5.heap.size 3 1 (.slice s.a ((s.xs).length) s.c) ((s.xs).length) ((s.xs).map vint)) ∧ (Blk wl b1 [.slice ka co.length kc, vint er, .slice sa se.length sc, .slice ja sl.length jc, .slice ra rl.length rc]) ∧ (TyAt wl b1 38) ∧ (Blk wl b4 [.slice ka co.length kc, vint er, .slice sa se.length sc, .slice ja sl.length jc, .slice ra rl.length rc, .map (some m1), .map (some m2)]) ∧ (TyAt wl b4 96) ∧ (RowsI wl R) ∧ (wl5.heap.size ≤ wl.heap.size) ∧ (Blk wl b7 [.func (.func 94) ⟨[]⟩ ⟨[]⟩, .func (.func 95) ⟨[]⟩ ⟨[]⟩]) ∧ (w.heap.size ≤ wl.heap.size) ∧ (Below w.heap.size w wl)) (fun ⟨j, s, cl⟩ => 2 - j) ⟨0, sv0, []⟩ ?_ ?_
   ·
    exact ⟨⟨rfl, rfl, rfl, rfl, rfl, rfl, rfl, rfl, trivial⟩, (by omega), (fun _ => rfl), rfl, rfl, hWk, hs, hb1, hty_b1, hb4, hty_b4, hRr, hszq, hb7, hsz, hB⟩
   ·
    rintro ⟨j, s, cl⟩ el8 wl8 ⟨hkn, hj, hs0, hjs, hjc, hWk, hs, hb1, hty_b1, hb4, hty_b4, hRr, hszq, hb7, hsz, hB⟩ ih8
    obtain ⟨e8, rfl⟩ := knows_env hkn
    refine r_seq (r_region' (l_q (q_lss rfl rfl rfl) (l_nil (r_seq (r_cond rfl (fun hc9 => ?_) (fun hc9 => ?_))))))
    ·
     replace hc9 := dt hc9
     refine r_skip (r_seq (r_block (r_seq ?_)))
     rcases (by omega : j = 0 ∨ j = 1) with rfl | rfl
     ·
      refine r_region' (l_q (q_indexAddr1 Tryz.underlying128 Tryz.sizeOf127 rfl rfl rfl (by omega) rfl) (l_q (q_load_agg (cs := [.func (.func 94) ⟨[]⟩ ⟨[]⟩]) (n := 1) Tryz.isAgg127 Tryz.sizeOf127 rfl ((hb7.cells' (cs' := [_]) 0 1 rfl)) rfl rfl) (l_o (o_alloct Tryz.zeroValue127 rfl rfl ?_))))
      intro b10 w10 hzl10 hzr10 _ hb10 hty_b10 hE10
      have hne_b1_b10 : b1 ≠ b10 := by have := hb1.lt; omega
      have hne_b4_b10 : b4 ≠ b10 := by have := hb4.lt; omega
      have hne_b7_b10 : b7 ≠ b10 := by have := hb7.lt; omega
      have hqb_b10 := Nat.le_trans hszq hzl10
      have hmw_b10 : m2 < b10 := Nat.lt_of_lt_of_le hWk.lt hzl10
      have hbs_b10 : w.heap.size ≤ b10 := Nat.le_trans hsz hzl10
      replace hB := below_ext hB hE10 hsz
      replace hb1 := hb1.ext hE10
      replace hty_b1 := hty_b1.ext hE10
      replace hWk := hWk.ext hE10
      replace hb4 := hb4.ext hE10
      replace hty_b4 := hty_b4.ext hE10
      replace hRr := hRr.ext hE10
      replace hszq := Nat.le_trans hszq hE10.size
      replace hs := own_ext hs hE10
      replace hb7 := hb7.ext hE10
      replace hsz := Nat.le_trans hsz hE10.size
      refine l_o (o_storet (vs := [.func (.func 94) ⟨[]⟩ ⟨[]⟩]) (cs' := [.func (.func 94) ⟨[]⟩ ⟨[]⟩]) Tryz.sizeOf127 rfl rfl rfl rfl hb10 (Nat.le_of_ble_eq_true rfl) rfl rfl ?_)
      intro w11 hz11 hb10 hT11 hG11
      replace hB := below_upd hB hG11 hsz (by omega)
      replace hsz : w.heap.size ≤ w11.heap.size := by rw [hz11]; exact hsz
      replace hb1 := hb1.upd hG11 (by omega)
      replace hty_b1 := hty_b1.upd hG11 (by omega)
      replace hWk := hWk.upd hG11 (by omega)
      replace hb4 := hb4.upd hG11 (by omega)
      replace hty_b4 := hty_b4.upd hG11 (by omega)
      replace hRr := (by first | exact RowsI.gm hRr hMcur hG11 | exact RowsI.low hRr hlow hG11 (some_ge (by omega)))
      replace hszq := Nat.le_trans hszq hG11.size
      replace hs := own_ty_upd hs hty_b10 hG11 (by decide)
      replace hb7 := hb7.upd hG11 (by omega)
      replace hty_b10 := hT11 _ hty_b10
      refine l_nil (r_seq (r_region' (l_q (q_fieldAddr (o' := 0) rfl fld127_0 rfl) (l_q (q_load Tryz.isAgg125 rfl ((hb10.has (o := 0) rfl)) rfl) (l_q (q_load_agg (n := 5) Tryz.isAgg38 Tryz.sizeOf38 rfl ((hb1.cells' (cs' := [_, _, _, _, _]) 0 5 rfl)) rfl rfl) (l_q (qmi rfl rfl) (l_o (o_callv (f := 94) (fst := []) (cap := []) rfl Tryz.call94 rfl (src0_ret ka kc co er sa sc se ja jc sl ra rc rl k _ (hlg.below hB) hbg hok hkR) rfl ?_))))))))
      rintro _ w12 ⟨X, xa, xc, rfl, hrX, hX, hE12⟩
      replace hB := below_ext hB hE12 hsz
      replace hb1 := hb1.ext hE12
      replace hty_b1 := hty_b1.ext hE12
      replace hWk := hWk.ext hE12
      replace hb4 := hb4.ext hE12
      replace hty_b4 := hty_b4.ext hE12
      replace hRr := hRr.ext hE12
      replace hszq := Nat.le_trans hszq hE12.size
      replace hs := own_ext hs hE12
      replace hb7 := hb7.ext hE12
      replace hb10 := hb10.ext hE12
      replace hty_b10 := hty_b10.ext hE12
      replace hsz := Nat.le_trans hsz hE12.size
      refine l_q (q_len rfl Tryz.underlying25 rfl rfl) (l_q (qmi rfl rfl) (l_nil (r_block ?_)))
      have hXn : X.length ≤ 8 := by rw [hX]; exact Nat.le_trans own_le hj8
      have hbX_b1 := hb1.lt
      have hbX_b4 := hb4.lt
      have hbX_b7 := hb7.lt
      have hbX_b10 := hb10.lt
      have hXlow : X ≠ [] → ∀ x, xa = some x → x.block < w12.heap.size := fun h => row_lt_ hrX h
      replace hs : w12.ownsRow w12.heap.size 3 1 (.slice s.a (s.xs).length s.c) (s.xs).length ((s.xs).map vint) := by rw [hs0 hjs]; exact World.ownsRow_nil _ _ _ _
      have hszB2 := hsz
      have hszx := hszq
      have hszq2 : w12.heap.size ≤ w12.heap.size := Nat.le_refl _
      refine r_rounds (α := Nat × SV × (List Int)) (fun ⟨q, s2, c2⟩ e wl => Knows e [(1, ptr b1 0), (3, ptr b4 0), (4, vint (k : Int)), (16, vint (rl.length : Int)), (17, vint (k : Int)), (22, .slice (some ⟨b7, 0, none⟩) 2 2), (23, vint 2), (24, vint 0), (32, .slice xa ((X).length) xc), (33, vint ((X).length : Int)), (34, vint (q : Int))] ∧ (q ≤ X.length) ∧ (s2.xs = [] → s2 = sv0) ∧ (s2.xs = s.xs ++ (X.take q).filter ne1) ∧ (c2 = cl ++ X.take q) ∧ (WkMaps wl m1 m2 (R ++ [s2]) (C ++ [c2])) ∧ (wl.ownsRow w12.heap.size 3 1 (.slice s2.a ((s2.xs).length) s2.c) ((s2.xs).length) ((s2.xs).map vint)) ∧ (Blk wl b1 [.slice ka co.length kc, vint er, .slice sa se.length sc, .slice ja sl.length jc, .slice ra rl.length rc]) ∧ (TyAt wl b1 38) ∧ (Blk wl b4 [.slice ka co.length kc, vint er, .slice sa se.length sc, .slice ja sl.length jc, .slice ra rl.length rc, .map (some m1), .map (some m2)]) ∧ (TyAt wl b4 96) ∧ (RowsI wl R) ∧ (wl5.heap.size ≤ wl.heap.size) ∧ (Blk wl b7 [.func (.func 94) ⟨[]⟩ ⟨[]⟩, .func (.func 95) ⟨[]⟩ ⟨[]⟩]) ∧ (Blk wl b10 [.func (.func 94) ⟨[]⟩ ⟨[]⟩]) ∧ (TyAt wl b10 127) ∧ (Row wl xa ((X).length) xc 1 ((X).map vint)) ∧ (w12.heap.size ≤ wl.heap.size) ∧ (w.heap.size ≤ wl.heap.size) ∧ (Below w.heap.size w wl)) (fun ⟨q, s2, c2⟩ => X.length - q) ⟨0, s, cl⟩ ?_ ?_
      ·
       exact ⟨⟨rfl, rfl, rfl, rfl, rfl, rfl, rfl, rfl, rfl, rfl, rfl, trivial⟩, (by omega), hs0, (List.append_nil _).symm, (List.append_nil _).symm, hWk, hs, hb1, hty_b1, hb4, hty_b4, hRr, hszq, hb7, hb10, hty_b10, hrX, hszq2, hsz, hB⟩
      ·
       rintro ⟨q, s2, c2⟩ el13 wl13 ⟨hkn, hq, hs20, hs2, hc2, hWk, hs, hb1, hty_b1, hb4, hty_b4, hRr, hszq, hb7, hb10, hty_b10, hrX, hszq2, hsz, hB⟩ ih13
       obtain ⟨e13, rfl⟩ := knows_env hkn
       refine r_seq (r_region' (l_q (q_lss rfl rfl rfl) (l_nil (r_seq (r_cond rfl (fun hc14 => ?_) (fun hc14 => ?_))))))
       ·
        replace hc14 := dt hc14
        refine r_skip (r_seq (r_block (r_seq ?_)))
        have hqX : q < X.length := by omega
        refine r_region' ?_
        obtain ⟨b15, o15, ha15, hh15⟩ := hrX.at1 q ((X).getD q 0) (getD_some (by omega))
        refine l_q (q_indexAddr1 Tryz.underlying25 Tryz.sizeOf3 rfl ha15 rfl (by omega) rfl) (l_q (q_load Tryz.isAgg3 rfl (hh15) rfl) (l_q (qai rfl rfl) (l_nil (r_seq (r_region' (l_q (q_move (v := .pointer _) rfl rfl) (l_q (q_nilCheck rfl rfl) (l_q (q_fieldAddr (o' := 6) rfl fld96_2 rfl) (l_q (q_load Tryz.isAgg94 rfl ((hb4.has (o := 6) rfl)) rfl) (l_q (qmi rfl rfl) (l_q (qmi rfl rfl) (l_q (q_build (v := .agg ⟨[vint (k : Int), vint ((X).getD q 0)]⟩) (fun w => by kernel_rfl) rfl) ?_))))))))))))
        obtain ⟨_, f16a, f16b, f16c, f16d, g16a, g16b, g16c, g16d⟩ := id hWk
        have hMcur := g16c
        refine l_o (o_mapPut (key := pairV) (i := ((k : Int), (X.getD q 0))) Tryz.underlying94 rfl rfl rfl g16c (fun em w => pairTy.key (n := 9998) _ _ w) (finds_pair pairTy g16d) (sameBits_pairV _) pairV_inj g16d rfl ?_)
        intro es16 ck16 w16 hz16 hM16 hG16 hH16
        have hWkn := hWk.put2 hM16 hG16 hH16 hCl
        replace hB := below_upd hB hG16 hsz (by omega)
        replace hsz : w.heap.size ≤ w16.heap.size := by rw [hz16]; exact hsz
        replace hb1 := hb1.upd hG16 (by omega)
        replace hty_b1 := hty_b1.upd hG16 (by omega)
        replace hb4 := hb4.upd hG16 (by omega)
        replace hty_b4 := hty_b4.upd hG16 (by omega)
        replace hRr := (by first | exact RowsI.gm hRr hMcur hG16 | exact RowsI.low hRr hlow hG16 (some_ge (by omega)))
        replace hszq := Nat.le_trans hszq hG16.size
        replace hs := own_unc hs hMcur.unc hG16
        replace hb7 := hb7.upd hG16 (by omega)
        replace hb10 := hb10.upd hG16 (by omega)
        replace hty_b10 := hty_b10.upd hG16 (by omega)
        replace hrX := (by first | exact Row.gm hrX hMcur hG16 | exact hrX.step hG16 (by omega))
        replace hszq2 := Nat.le_trans hszq2 hG16.size
        replace hWk := hWkn
        refine l_nil (r_forget [(1, .pointer _), (3, .pointer _), (4, .int _ _), (8, .int _ _), (16, .int _ _), (17, .int _ _), (22, .slice _ _ _), (23, .int _ _), (24, .int _ _), (32, .slice _ _ _), (33, .int _ _), (34, .int _ _)] ⟨rfl, rfl, rfl, rfl, rfl, rfl, rfl, rfl, rfl, rfl, rfl, rfl, trivial⟩ (fun e17 => (r_seq (r_region' (l_q (qmi rfl rfl) (l_q (q_neq rfl rfl rfl) (l_nil (r_cond rfl (fun hc18 => ?_) (fun hc18 => ?_)))))))))
        ·
         replace hc18 := df (nt hc18)
         have hne1 : ne1 (X.getD q 0) = true := by have := hc18; unfold ne1; simpa using this
         obtain ⟨_, e1, c1, e2, ck2, hM1, hH1, hM2, hH2⟩ := id hWk
         have hs2n := wk_len hjs hs2 hXn
         refine r_draw3 (ClsW.refl b4 [.slice ka co.length kc, vint er, .slice sa se.length sc, .slice ja sl.length jc, .slice ra rl.length rc, .map (some m1), .map (some m2)] m1 c1 e1) (ClsW.trans b4 [.slice ka co.length kc, vint er, .slice sa se.length sc, .slice ja sl.length jc, .slice ra rl.length rc, .map (some m1), .map (some m2)] m1 c1 e1) (.op 0 (.op 1 (.op 2 (.op 3 (.op 4 (.op 5 (.op 6 (.op 7 (.op 8 (.op 9 (.op 10 (.op 11 (.op 12 (.op 13 (.op 14 (.done)))))))))))))))) [12, 13, 14, 1014] 3 (by kernel_rfl) (by kernel_rfl) ?_
         intro w19 _ hE19
         replace hB := below_ext hB hE19 hsz
         replace hb1 := hb1.ext hE19
         replace hty_b1 := hty_b1.ext hE19
         replace hb4 := hb4.ext hE19
         replace hty_b4 := hty_b4.ext hE19
         replace hRr := hRr.ext hE19
         replace hszq := Nat.le_trans hszq hE19.size
         replace hs := own_ext hs hE19
         replace hb7 := hb7.ext hE19
         replace hb10 := hb10.ext hE19
         replace hty_b10 := hty_b10.ext hE19
         replace hrX := hrX.ext hE19
         replace hszq2 := Nat.le_trans hszq2 hE19.size
         replace hWk := hWk.ext hE19
         replace hM1 := hM1.ext hE19
         replace hsz := Nat.le_trans hsz hE19.size
         refine m_q3 rfl rfl (fun w' hC' => q_move (v := .pointer _) rfl rfl) (m_q3 rfl rfl (fun w' hC' => q_nilCheck rfl rfl) (m_q3 rfl rfl (fun w' hC' => q_fieldAddr (o' := 5) rfl fld96_1 rfl) (m_q3 rfl rfl (fun w' hC' => q_load Tryz.isAgg93 rfl (((hC'.1 hb4).has (o := 5) rfl)) rfl) (m_q3 rfl rfl (fun w' hC' => qmi rfl rfl) (m_q3 rfl rfl (fun w' hC' => q_move (v := .pointer _) rfl rfl) (m_q3 rfl rfl (fun w' hC' => q_nilCheck rfl rfl) (m_q3 rfl rfl (fun w' hC' => q_fieldAddr (o' := 5) rfl fld96_1 rfl) (m_q3 rfl rfl (fun w' hC' => q_load Tryz.isAgg93 rfl (((hC'.1 hb4).has (o := 5) rfl)) rfl) (m_q3 rfl rfl (fun w' hC' => qmi rfl rfl) (m_q3 rfl rfl (fun w' hC' => q_look1 (v := .slice s2.a s2.xs.length s2.c) Tryz.underlying93 Tryz.zeroValue25 rfl rfl (hC'.2 hM1) (fun em w => key_int (n := 9999) Tryz.underlying3 _ w) (finds_int Tryz.underlying3 rfl hH1.ints) (rowF_look hH1 hRl hs20) rfl) ?_))))))))))
         refine m_q3 rfl rfl (fun w' hC' => qmi rfl rfl) (m_o3 rfl rfl (o_buildSlice (el := 3) (cs := [vint ((X).getD q 0)]) Tryz.underlying25 el3 (by decide) (by kernel_rfl) rfl (by decide) rfl ?_))
         intro b20 w20 hzl20 hzr20 _ hb20 hE20 ho20
         refine ⟨(ClsW.ext hE20), ?_⟩
         have hne_b1_b20 : b1 ≠ b20 := by have := hb1.lt; omega
         have hne_b4_b20 : b4 ≠ b20 := by have := hb4.lt; omega
         have hne_b7_b20 : b7 ≠ b20 := by have := hb7.lt; omega
         have hne_b10_b20 : b10 ≠ b20 := by have := hb10.lt; omega
         have hqb_b20 := Nat.le_trans hszq hzl20
         have hmw_b20 : m2 < b20 := Nat.lt_of_lt_of_le hWk.lt hzl20
         have hbs_b20 : w.heap.size ≤ b20 := Nat.le_trans hsz hzl20
         replace hB := below_ext hB hE20 hsz
         replace hb1 := hb1.ext hE20
         replace hty_b1 := hty_b1.ext hE20
         replace hb4 := hb4.ext hE20
         replace hty_b4 := hty_b4.ext hE20
         replace hRr := hRr.ext hE20
         replace hszq := Nat.le_trans hszq hE20.size
         replace hs := own_ext hs hE20
         replace hb7 := hb7.ext hE20
         replace hb10 := hb10.ext hE20
         replace hty_b10 := hty_b10.ext hE20
         replace hrX := hrX.ext hE20
         replace hszq2 := Nat.le_trans hszq2 hE20.size
         replace hWk := hWk.ext hE20
         replace hsz := Nat.le_trans hsz hE20.size
         refine m_o3 rfl rfl (o_append_map (f := vint) (s2.xs) ([(X).getD q 0]) Tryz.underlying25 el3 rfl rfl hs rfl (Row.of_owns ho20) (fun _ => rfl) (by (try simp only [List.length_append, List.length_cons, List.length_nil, List.length_take, List.length_drop, List.length_replicate]); omega) (by omega) rfl ?_)
         intro a21 c21 w21 hz21 ho21 hG21
         refine ⟨⟨fun h => h.step hG21 (own_ty_ne hs hty_b4 (by decide)), fun h => h.own hs hG21⟩, ?_⟩
         replace hB := below_own hB hG21 hs (by omega) hsz
         replace hsz := Nat.le_trans hsz hG21.size
         replace hb1 := hb1.step hG21 (own_ty_ne hs hty_b1 (by decide))
         replace hb4 := hb4.step hG21 (own_ty_ne hs hty_b4 (by decide))
         replace hRr := RowsI.low hRr hlow hG21 (own_ge hs (by omega))
         replace hszq := Nat.le_trans hszq hG21.size
         replace hb7 := hb7.step hG21 (own_ne hs (by omega))
         replace hb10 := hb10.step hG21 (own_ty_ne hs hty_b10 (by decide))
         replace hrX := row_low hrX hG21 hXlow (own_ge hs (Nat.le_refl _))
         replace hszq2 := Nat.le_trans hszq2 hG21.size
         replace hWk := WkMaps.own hWk hs hG21
         replace hty_b1 := TyAt.own hty_b1 hs hG21 (by decide)
         replace hty_b4 := TyAt.own hty_b4 hs hG21 (by decide)
         replace hty_b10 := TyAt.own hty_b10 hs hG21 (by decide)
         obtain ⟨_, f22a, f22b, f22c, f22d, g22a, g22b, g22c, g22d⟩ := id hWk
         have hMcur := g22a
         refine m_last3 rfl rfl rfl (o_mapPut (key := vint) (i := (k : Int)) Tryz.underlying93 rfl rfl rfl g22a (fun em w => key_int (n := 9999) Tryz.underlying3 _ w) (finds_int Tryz.underlying3 rfl g22b.ints) (sameBits_vint _) vint_inj_ g22b rfl ?_)
         intro es22 ck22 w22 hz22 hM22 hG22 hH22
         have hWkn := WkMaps.put1 (s' := (⟨a21, c21, s2.xs ++ [(X.getD q 0)]⟩ : SV)) hWk hM22 hG22 hH22 hRl (by simp)
         replace hB := below_upd hB hG22 hsz (by omega)
         replace hsz : w.heap.size ≤ w22.heap.size := by rw [hz22]; exact hsz
         replace hb1 := hb1.upd hG22 (by omega)
         replace hty_b1 := hty_b1.upd hG22 (by omega)
         replace hb4 := hb4.upd hG22 (by omega)
         replace hty_b4 := hty_b4.upd hG22 (by omega)
         replace hRr := (by first | exact RowsI.gm hRr hMcur hG22 | exact RowsI.low hRr hlow hG22 (some_ge (by omega)))
         replace hszq := Nat.le_trans hszq hG22.size
         replace hb7 := hb7.upd hG22 (by omega)
         replace hb10 := hb10.upd hG22 (by omega)
         replace hty_b10 := hty_b10.upd hG22 (by omega)
         replace hrX := (by first | exact Row.gm hrX hMcur hG22 | exact hrX.step hG22 (by omega))
         replace hszq2 := Nat.le_trans hszq2 hG22.size
         replace ho21 := own_unc ho21 hMcur.unc hG22
         replace hWk := hWkn
         refine m_nil3 (r_forget [(1, .pointer _), (3, .pointer _), (4, .int _ _), (16, .int _ _), (17, .int _ _), (22, .slice _ _ _), (23, .int _ _), (24, .int _ _), (32, .slice _ _ _), (33, .int _ _), (34, .int _ _)] ⟨rfl, rfl, rfl, rfl, rfl, rfl, rfl, rfl, rfl, rfl, rfl, trivial⟩ (fun e23 => (r_inBlock (r_region' (l_q (q_add rfl rfl (by omega) rfl) (l_q (qmi rfl rfl) (l_nil ?_)))))))
         exact ih13 ⟨q + 1, (⟨a21, c21, s2.xs ++ [(X.getD q 0)]⟩ : SV), c2 ++ [X.getD q 0]⟩ _ _ ⟨⟨rfl, rfl, rfl, rfl, rfl, rfl, rfl, rfl, rfl, rfl, (vint_eq (by omega)), trivial⟩, (by omega), (fun h => absurd h (by simp)), (take_ne1 hqX rfl hne1 hs2), (take_c hqX rfl hc2), hWk, ho21, hb1, hty_b1, hb4, hty_b4, hRr, hszq, hb7, hb10, hty_b10, hrX, hszq2, hsz, hB⟩ (by first | omega | (dsimp only; omega))
        ·
         replace hc18 := dt (nf hc18)
         exact absurd (show X.getD q 0 = -1 by have := hc18; simpa using this) (by rw [hX] at hqX ⊢; exact own_at hqX)
       ·
        replace hc14 := dlt hc14
        have hqn : ¬ q < X.length := by omega
        refine r_exit rfl (r_inBlock (r_region' (l_q (q_add rfl rfl (by omega) rfl) (l_q (qmi rfl rfl) (l_nil ?_)))))
        exact ih8 ⟨0 + 1, s2, c2⟩ _ _ ⟨⟨rfl, rfl, rfl, rfl, rfl, rfl, rfl, by first | exact vint_eq (by omega) | rfl, trivial⟩, (by omega), hs20, (by first | exact wk_s0 hjs hX hs2 hqn | exact wk_s1 hjs hX hs2 hqn), (by first | exact wk_c0 hjc hX hc2 hqn | exact wk_c1 hjc hX hc2 hqn), hWk, (own_mono hs (by omega)), hb1, hty_b1, hb4, hty_b4, hRr, hszq, hb7, hsz, hB⟩ (by first | omega | (dsimp only; omega))
     ·
      refine r_region' (l_q (q_indexAddr1 Tryz.underlying128 Tryz.sizeOf127 rfl rfl rfl (by omega) rfl) (l_q (q_load_agg (cs := [.func (.func 95) ⟨[]⟩ ⟨[]⟩]) (n := 1) Tryz.isAgg127 Tryz.sizeOf127 rfl ((hb7.cells' (cs' := [_]) 1 1 rfl)) rfl rfl) (l_o (o_alloct Tryz.zeroValue127 rfl rfl ?_))))
      intro b24 w24 hzl24 hzr24 _ hb24 hty_b24 hE24
      have hne_b1_b24 : b1 ≠ b24 := by have := hb1.lt; omega
      have hne_b4_b24 : b4 ≠ b24 := by have := hb4.lt; omega
      have hne_b7_b24 : b7 ≠ b24 := by have := hb7.lt; omega
      have hqb_b24 := Nat.le_trans hszq hzl24
      have hmw_b24 : m2 < b24 := Nat.lt_of_lt_of_le hWk.lt hzl24
      have hbs_b24 : w.heap.size ≤ b24 := Nat.le_trans hsz hzl24
      replace hB := below_ext hB hE24 hsz
      replace hb1 := hb1.ext hE24
      replace hty_b1 := hty_b1.ext hE24
      replace hWk := hWk.ext hE24
      replace hb4 := hb4.ext hE24
      replace hty_b4 := hty_b4.ext hE24
      replace hRr := hRr.ext hE24
      replace hszq := Nat.le_trans hszq hE24.size
      replace hs := own_ext hs hE24
      replace hb7 := hb7.ext hE24
      replace hsz := Nat.le_trans hsz hE24.size
      refine l_o (o_storet (vs := [.func (.func 95) ⟨[]⟩ ⟨[]⟩]) (cs' := [.func (.func 95) ⟨[]⟩ ⟨[]⟩]) Tryz.sizeOf127 rfl rfl rfl rfl hb24 (Nat.le_of_ble_eq_true rfl) rfl rfl ?_)
      intro w25 hz25 hb24 hT25 hG25
      replace hB := below_upd hB hG25 hsz (by omega)
      replace hsz : w.heap.size ≤ w25.heap.size := by rw [hz25]; exact hsz
      replace hb1 := hb1.upd hG25 (by omega)
      replace hty_b1 := hty_b1.upd hG25 (by omega)
      replace hWk := hWk.upd hG25 (by omega)
      replace hb4 := hb4.upd hG25 (by omega)
      replace hty_b4 := hty_b4.upd hG25 (by omega)
      replace hRr := (by first | exact RowsI.gm hRr hMcur hG25 | exact RowsI.low hRr hlow hG25 (some_ge (by omega)))
      replace hszq := Nat.le_trans hszq hG25.size
      replace hs := own_ty_upd hs hty_b24 hG25 (by decide)
      replace hb7 := hb7.upd hG25 (by omega)
      replace hty_b24 := hT25 _ hty_b24
      refine l_nil (r_seq (r_region' (l_q (q_fieldAddr (o' := 0) rfl fld127_0 rfl) (l_q (q_load Tryz.isAgg125 rfl ((hb24.has (o := 0) rfl)) rfl) (l_q (q_load_agg (n := 5) Tryz.isAgg38 Tryz.sizeOf38 rfl ((hb1.cells' (cs' := [_, _, _, _, _]) 0 5 rfl)) rfl rfl) (l_q (qmi rfl rfl) (l_o (o_callv (f := 95) (fst := []) (cap := []) rfl Tryz.call95 rfl (src1_ret ka kc co er sa sc se ja jc sl ra rc rl k _ (hlg.below hB) hbg hok hkR) rfl ?_))))))))
      rintro _ w26 ⟨X, xa, xc, rfl, hrX, hX, hE26⟩
      replace hB := below_ext hB hE26 hsz
      replace hb1 := hb1.ext hE26
      replace hty_b1 := hty_b1.ext hE26
      replace hWk := hWk.ext hE26
      replace hb4 := hb4.ext hE26
      replace hty_b4 := hty_b4.ext hE26
      replace hRr := hRr.ext hE26
      replace hszq := Nat.le_trans hszq hE26.size
      replace hs := own_ext hs hE26
      replace hb7 := hb7.ext hE26
      replace hb24 := hb24.ext hE26
      replace hty_b24 := hty_b24.ext hE26
      replace hsz := Nat.le_trans hsz hE26.size
      refine l_q (q_len rfl Tryz.underlying25 rfl rfl) (l_q (qmi rfl rfl) (l_nil (r_block ?_)))
      have hXn : X.length ≤ 8 := by rw [hX]; exact Nat.le_trans fal_le (by decide)
      have hbX_b1 := hb1.lt
      have hbX_b4 := hb4.lt
      have hbX_b7 := hb7.lt
      have hbX_b24 := hb24.lt
      refine r_rounds (α := Nat × SV × (List Int)) (fun ⟨q, s2, c2⟩ e wl => Knows e [(1, ptr b1 0), (3, ptr b4 0), (4, vint (k : Int)), (16, vint (rl.length : Int)), (17, vint (k : Int)), (22, .slice (some ⟨b7, 0, none⟩) 2 2), (23, vint 2), (24, vint 1), (32, .slice xa ((X).length) xc), (33, vint ((X).length : Int)), (34, vint (q : Int))] ∧ (q ≤ X.length) ∧ (s2.xs = [] → s2 = sv0) ∧ (s2.xs = s.xs ++ (X.take q).filter ne1) ∧ (c2 = cl ++ X.take q) ∧ (WkMaps wl m1 m2 (R ++ [s2]) (C ++ [c2])) ∧ (wl.ownsRow wl5.heap.size 3 1 (.slice s2.a ((s2.xs).length) s2.c) ((s2.xs).length) ((s2.xs).map vint)) ∧ (Blk wl b1 [.slice ka co.length kc, vint er, .slice sa se.length sc, .slice ja sl.length jc, .slice ra rl.length rc]) ∧ (TyAt wl b1 38) ∧ (Blk wl b4 [.slice ka co.length kc, vint er, .slice sa se.length sc, .slice ja sl.length jc, .slice ra rl.length rc, .map (some m1), .map (some m2)]) ∧ (TyAt wl b4 96) ∧ (RowsI wl R) ∧ (wl5.heap.size ≤ wl.heap.size) ∧ (Blk wl b7 [.func (.func 94) ⟨[]⟩ ⟨[]⟩, .func (.func 95) ⟨[]⟩ ⟨[]⟩]) ∧ (Blk wl b24 [.func (.func 95) ⟨[]⟩ ⟨[]⟩]) ∧ (TyAt wl b24 127) ∧ (Row wl xa ((X).length) xc 1 ((X).map vint)) ∧ (w.heap.size ≤ wl.heap.size) ∧ (Below w.heap.size w wl)) (fun ⟨q, s2, c2⟩ => X.length - q) ⟨0, s, cl⟩ ?_ ?_
      ·
       exact ⟨⟨rfl, rfl, rfl, rfl, rfl, rfl, rfl, rfl, rfl, rfl, rfl, trivial⟩, (by omega), hs0, (List.append_nil _).symm, (List.append_nil _).symm, hWk, hs, hb1, hty_b1, hb4, hty_b4, hRr, hszq, hb7, hb24, hty_b24, hrX, hsz, hB⟩
      ·
       rintro ⟨q, s2, c2⟩ el27 wl27 ⟨hkn, hq, hs20, hs2, hc2, hWk, hs, hb1, hty_b1, hb4, hty_b4, hRr, hszq, hb7, hb24, hty_b24, hrX, hsz, hB⟩ ih27
       obtain ⟨e27, rfl⟩ := knows_env hkn
       refine r_seq (r_region' (l_q (q_lss rfl rfl rfl) (l_nil (r_seq (r_cond rfl (fun hc28 => ?_) (fun hc28 => ?_))))))
       ·
        replace hc28 := dt hc28
        refine r_skip (r_seq (r_block (r_seq ?_)))
        have hqX : q < X.length := by omega
        refine r_region' ?_
        obtain ⟨b29, o29, ha29, hh29⟩ := hrX.at1 q ((X).getD q 0) (getD_some (by omega))
        refine l_q (q_indexAddr1 Tryz.underlying25 Tryz.sizeOf3 rfl ha29 rfl (by omega) rfl) (l_q (q_load Tryz.isAgg3 rfl (hh29) rfl) (l_q (qai rfl rfl) (l_nil (r_seq (r_region' (l_q (q_move (v := .pointer _) rfl rfl) (l_q (q_nilCheck rfl rfl) (l_q (q_fieldAddr (o' := 6) rfl fld96_2 rfl) (l_q (q_load Tryz.isAgg94 rfl ((hb4.has (o := 6) rfl)) rfl) (l_q (qmi rfl rfl) (l_q (qmi rfl rfl) (l_q (q_build (v := .agg ⟨[vint (k : Int), vint ((X).getD q 0)]⟩) (fun w => by kernel_rfl) rfl) ?_))))))))))))
        obtain ⟨_, f30a, f30b, f30c, f30d, g30a, g30b, g30c, g30d⟩ := id hWk
        have hMcur := g30c
        refine l_o (o_mapPut (key := pairV) (i := ((k : Int), (X.getD q 0))) Tryz.underlying94 rfl rfl rfl g30c (fun em w => pairTy.key (n := 9998) _ _ w) (finds_pair pairTy g30d) (sameBits_pairV _) pairV_inj g30d rfl ?_)
        intro es30 ck30 w30 hz30 hM30 hG30 hH30
        have hWkn := hWk.put2 hM30 hG30 hH30 hCl
        replace hB := below_upd hB hG30 hsz (by omega)
        replace hsz : w.heap.size ≤ w30.heap.size := by rw [hz30]; exact hsz
        replace hb1 := hb1.upd hG30 (by omega)
        replace hty_b1 := hty_b1.upd hG30 (by omega)
        replace hb4 := hb4.upd hG30 (by omega)
        replace hty_b4 := hty_b4.upd hG30 (by omega)
        replace hRr := (by first | exact RowsI.gm hRr hMcur hG30 | exact RowsI.low hRr hlow hG30 (some_ge (by omega)))
        replace hszq := Nat.le_trans hszq hG30.size
        replace hs := own_unc hs hMcur.unc hG30
        replace hb7 := hb7.upd hG30 (by omega)
        replace hb24 := hb24.upd hG30 (by omega)
        replace hty_b24 := hty_b24.upd hG30 (by omega)
        replace hrX := (by first | exact Row.gm hrX hMcur hG30 | exact hrX.step hG30 (by omega))
        replace hWk := hWkn
        refine l_nil (r_forget [(1, .pointer _), (3, .pointer _), (4, .int _ _), (8, .int _ _), (16, .int _ _), (17, .int _ _), (22, .slice _ _ _), (23, .int _ _), (24, .int _ _), (32, .slice _ _ _), (33, .int _ _), (34, .int _ _)] ⟨rfl, rfl, rfl, rfl, rfl, rfl, rfl, rfl, rfl, rfl, rfl, rfl, trivial⟩ (fun e31 => (r_seq (r_region' (l_q (qmi rfl rfl) (l_q (q_neq rfl rfl rfl) (l_nil (r_cond rfl (fun hc32 => ?_) (fun hc32 => ?_)))))))))
        ·
         replace hc32 := df (nt hc32)
         exact absurd (by rw [hX] at hqX ⊢; exact fal_at hqX) (show ¬ X.getD q 0 = -1 by have := hc32; simpa using this)
        ·
         replace hc32 := dt (nf hc32)
         have hne1 : ne1 (X.getD q 0) = false := by have := hc32; unfold ne1; simpa using this
         refine r_skip (r_inBlock (r_region' (l_q (q_add rfl rfl (by omega) rfl) (l_q (qmi rfl rfl) (l_nil ?_)))))
         exact ih27 ⟨q + 1, s2, c2 ++ [X.getD q 0]⟩ _ _ ⟨⟨rfl, rfl, rfl, rfl, rfl, rfl, rfl, rfl, rfl, rfl, (vint_eq (by omega)), trivial⟩, (by omega), hs20, (take_e1 hqX rfl hne1 hs2), (take_c hqX rfl hc2), hWk, hs, hb1, hty_b1, hb4, hty_b4, hRr, hszq, hb7, hb24, hty_b24, hrX, hsz, hB⟩ (by first | omega | (dsimp only; omega))
       ·
        replace hc28 := dlt hc28
        have hqn : ¬ q < X.length := by omega
        refine r_exit rfl (r_inBlock (r_region' (l_q (q_add rfl rfl (by omega) rfl) (l_q (qmi rfl rfl) (l_nil ?_)))))
        exact ih8 ⟨1 + 1, s2, c2⟩ _ _ ⟨⟨rfl, rfl, rfl, rfl, rfl, rfl, rfl, by first | exact vint_eq (by omega) | rfl, trivial⟩, (by omega), hs20, (by first | exact wk_s0 hjs hX hs2 hqn | exact wk_s1 hjs hX hs2 hqn), (by first | exact wk_c0 hjc hX hc2 hqn | exact wk_c1 hjc hX hc2 hqn), hWk, (own_mono hs (by omega)), hb1, hty_b1, hb4, hty_b4, hRr, hszq, hb7, hsz, hB⟩ (by first | omega | (dsimp only; omega))
    ·
     replace hc9 := dlt hc9
     refine r_exit rfl (r_inBlock (r_region' (l_q (q_add rfl rfl (by omega) rfl) (l_q (qmi rfl rfl) (l_nil ?_)))))
     have hj2 : j = 2 := by omega
     have hjs2 : s.xs = ownL (lg co er se sl rl) (rl.getD k rcd0) := by rw [hjs, hj2]; rfl
     have hjc2 : cl = candL (lg co er se sl rl) (rl.getD k rcd0) := by rw [hjc, hj2]; rfl
     exact ih5 ⟨k + 1, R ++ [s], C ++ [cl]⟩ _ _ ⟨⟨rfl, rfl, rfl, (vint_eq (by omega)), trivial⟩, (by omega), (by rw [take_sg (d := rcd0) hkR, List.map_append, List.map_append, hRm, List.map_cons, List.map_cons, List.map_nil, List.map_nil, hjs2]), (by rw [take_sg (d := rcd0) hkR, List.map_append, hCm, List.map_cons, List.map_nil, hjc2]), hWk, (RowsI.snoc_own hRr hs), hb1, hty_b1, hb4, hty_b4, hsz, hB⟩ (by first | omega | (dsimp only; omega))
  ·
   replace hc6 := dlt hc6
   refine r_exit rfl (r_seq (r_region' (l_q (q_move (v := .pointer _) rfl rfl) (l_q (q_assign (v := .pointer _) rfl rfl) (l_nil (r_ret_ (vs := [.pointer _]) rfl Tryz.func65 rfl (.nil _) ⟨rfl, trivial⟩ ?_))))))
   have hkk : rl.take k = rl := List.take_of_length_le (by omega)
   rw [hkk] at hRm hCm
   subst hCm
   exact ⟨b4, m1, m2, R, rfl, hb4, hty_b4, hWk, hRr, hRm, Ext.of_below hB⟩
end Go.Proofs.YtekkdhpgcilpdaaGreat
