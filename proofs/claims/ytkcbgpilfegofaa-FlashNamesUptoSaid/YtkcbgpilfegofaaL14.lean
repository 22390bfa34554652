/- Contracts. -/
import Derived.Test.YtkcbgpilfegofaaF20
import Derived.Test.YtkcbgpilfegofaaF23
import Derived.Test.YtkcbgpilfegofaaGvConv
set_option linter.unusedVariables false
set_option linter.unusedSimpArgs false
namespace Go.Proofs.Ytkcbgpilfegofaa
open Go Go.RowKit Go.Gv Go.Fl

theorem tx_n : txL three [46, 46] 0 2 = [[2]] := by decide +kernel
theorem tx_n2 {L : List SV} (h : L.map (·.xs) = txL three [46, 46] 0 2) : ∀ s ∈ L, s.xs.length ≤ 2097152 := by
  intro s hs
  have hm : s.xs ∈ L.map (·.xs) := List.mem_map.2 ⟨s, hs, rfl⟩
  rw [h, tx_n] at hm
  rw [List.mem_singleton.1 hm]; decide

theorem el5 : Elem Try.prog 5 (.int .u8 0) 1 1 := elem_of (by kernel_rfl) rfl (by decide)
theorem flashNames_ret (w : World) : Ret Try.prog 14 [] w (fun v w' => v = .bool true ∧ Ext w w') := by
  have hB := Below.refl w.heap.size w
  have hsz : w.heap.size ≤ w.heap.size := Nat.le_refl _
  refine ret_of_runs (args := []) Try.func14 rfl (Nat.le_of_ble_eq_true rfl) (by kernel_rfl) ?_
  refine r_seq ?_
  refine r_region' ?_
  refine l_q (q_assign (v := .bool _) rfl rfl) ?_
  refine l_nil ?_
  refine r_forget [] trivial (fun e1 => ?_)
  refine r_seq ?_
  refine r_region' ?_
  refine l_o (o_call Try.call46 rfl (three_ret _) rfl ?_)
  rintro _ w2 ⟨ca2, cc2, rfl, hrc2, hE2⟩
  replace hB := below_ext hB hE2 hsz
  replace hsz := Nat.le_trans hsz hE2.size
  refine l_o (o_call Try.call32 rfl (texts2_ret _ _ three [46, 46] 0 2 _ hrc2 (by decide) three_le (by decide)) rfl ?_)
  have hszp3 : w.heap.size ≤ w2.heap.size := hsz
  rintro _ w3 ⟨oa3, oc3, L3, rfl, ho3, hos3, hm3, hE3⟩
  replace ho3 := own_mono ho3 (show w.heap.size ≤ _ by omega)
  replace hB := below_ext hB hE3 hsz
  replace hrc2 := hrc2.ext hE3
  replace hsz := Nat.le_trans hsz hE3.size
  have hmt := hm3
  refine l_q (q_move (v := .tuple _) rfl rfl) ?_
  refine l_q (q_extract (vs := [_, _]) (v := .slice _ _ _) rfl rfl rfl) ?_
  refine l_q (q_extract (vs := [_, _]) (v := .int _ _) rfl rfl rfl) ?_
  refine l_q (q_assign (v := .slice _ _ _) rfl rfl) ?_
  refine l_q (q_assign (v := .int _ _) rfl rfl) ?_
  refine l_nil ?_
  refine r_forget [(1, .slice _ _ _), (2, .int _ _)] ⟨rfl, rfl, trivial⟩ (fun e4 => ?_)
  refine r_seq ?_
  refine r_region' ?_
  refine l_o (o_buildSlice (el := 3) (cs := [vint 1]) Try.underlying25 el3 (by decide) (by kernel_rfl) rfl (by decide) rfl ?_)
  intro b5 w5 hzl5 hzr5 _ hb5 hE5 ho5
  have hszq5 : w.heap.size ≤ w3.heap.size := hsz
  have hbs_b5 : w.heap.size ≤ b5 := Nat.le_trans hsz hzl5
  replace hB := below_ext hB hE5 hsz
  replace hrc2 := hrc2.ext hE5
  replace ho3 := own_ext ho3 hE5
  replace hos3 := hos3.ext hE5
  replace hsz := Nat.le_trans hsz hE5.size
  refine l_o (o_buildSlice (el := 3) (cs := [vint 2]) Try.underlying25 el3 (by decide) (by kernel_rfl) rfl (by decide) rfl ?_)
  intro b6 w6 hzl6 hzr6 _ hb6 hE6 ho6
  have hszq6 : w.heap.size ≤ w5.heap.size := hsz
  have hbs_b6 : w.heap.size ≤ b6 := Nat.le_trans hsz hzl6
  replace hB := below_ext hB hE6 hsz
  replace hrc2 := hrc2.ext hE6
  replace ho3 := own_ext ho3 hE6
  replace hos3 := hos3.ext hE6
  replace ho5 := own_ext ho5 hE6
  replace hsz := Nat.le_trans hsz hE6.size
  refine l_o (o_buildSlice (el := 3) (cs := [vint 0, vint 0]) Try.underlying25 el3 (by decide) (by kernel_rfl) rfl (by decide) rfl ?_)
  intro b7 w7 hzl7 hzr7 _ hb7 hE7 ho7
  have hszq7 : w.heap.size ≤ w6.heap.size := hsz
  have hbs_b7 : w.heap.size ≤ b7 := Nat.le_trans hsz hzl7
  replace hB := below_ext hB hE7 hsz
  replace hrc2 := hrc2.ext hE7
  replace ho3 := own_ext ho3 hE7
  replace hos3 := hos3.ext hE7
  replace ho5 := own_ext ho5 hE7
  replace ho6 := own_ext ho6 hE7
  replace hsz := Nat.le_trans hsz hE7.size
  refine l_o (o_buildSlice (el := 25) (cs := [.slice (some ⟨b5, 0, none⟩) 1 1, .slice (some ⟨b6, 0, none⟩) 1 1, .slice (some ⟨b7, 0, none⟩) 2 2]) Try.underlying48 el25 (by decide) (by kernel_rfl) rfl (by decide) rfl ?_)
  intro b8 w8 hzl8 hzr8 _ hb8 hE8 ho8
  have hszq8 : w.heap.size ≤ w7.heap.size := hsz
  have hbs_b8 : w.heap.size ≤ b8 := Nat.le_trans hsz hzl8
  replace hB := below_ext hB hE8 hsz
  replace hrc2 := hrc2.ext hE8
  replace ho3 := own_ext ho3 hE8
  replace hos3 := hos3.ext hE8
  replace ho5 := own_ext ho5 hE8
  replace ho6 := own_ext ho6 hE8
  replace ho7 := own_ext ho7 hE8
  replace hsz := Nat.le_trans hsz hE8.size
  have hos8 : OwnsI w8 w.heap.size 3 [⟨some ⟨b5, 0, none⟩, 1, [1]⟩, ⟨some ⟨b6, 0, none⟩, 1, [2]⟩, ⟨some ⟨b7, 0, none⟩, 2, [0, 0]⟩] := OwnsI.snoc (OwnsI.snoc (OwnsI.snoc (OwnsI.nil _ _ _) (own_mono ho5 (by omega))) (own_mono ho6 (by omega))) (own_mono ho7 (by omega))
  refine l_o (o_call Try.call37 rfl (frepeat_ret _ _ [⟨some ⟨b5, 0, none⟩, 1, [1]⟩, ⟨some ⟨b6, 0, none⟩, 1, [2]⟩, ⟨some ⟨b7, 0, none⟩, 2, [0, 0]⟩] _ (Row.of_owns ho8) hos8.rows (by simp) (by simp)) rfl ?_)
  rintro _ w9 ⟨rfl, hE9⟩
  replace hB := below_ext hB hE9 hsz
  replace hrc2 := hrc2.ext hE9
  replace ho3 := own_ext ho3 hE9
  replace hos3 := hos3.ext hE9
  replace ho5 := own_ext ho5 hE9
  replace ho6 := own_ext ho6 hE9
  replace ho7 := own_ext ho7 hE9
  replace hos8 := hos8.ext hE9
  replace ho8 := own_ext ho8 hE9
  replace hsz := Nat.le_trans hsz hE9.size
  refine l_q (q_move (v := .tuple _) rfl rfl) ?_
  refine l_q (q_extract (vs := [_, _, _]) (v := .int _ _) rfl rfl rfl) ?_
  refine l_q (q_extract (vs := [_, _, _]) (v := .int _ _) rfl rfl rfl) ?_
  refine l_q (q_extract (vs := [_, _, _]) (v := .int _ _) rfl rfl rfl) ?_
  refine l_q (q_assign (v := .int _ _) rfl rfl) ?_
  refine l_q (q_assign (v := .int _ _) rfl rfl) ?_
  refine l_q (q_assign (v := .int _ _) rfl rfl) ?_
  refine l_nil ?_
  refine r_forget [(1, .slice _ _ _), (2, .int _ _), (3, .int _ _), (4, .int _ _), (5, .int _ _)] ⟨rfl, rfl, rfl, rfl, rfl, trivial⟩ (fun e10 => ?_)
  refine r_seq ?_
  refine r_region' ?_
  refine l_o (o_buildSlice (el := 3) (cs := [vint 5, vint 5]) Try.underlying25 el3 (by decide) (by kernel_rfl) rfl (by decide) rfl ?_)
  intro b11 w11 hzl11 hzr11 _ hb11 hE11 ho11
  have hszq11 : w.heap.size ≤ w9.heap.size := hsz
  have hbs_b11 : w.heap.size ≤ b11 := Nat.le_trans hsz hzl11
  replace hB := below_ext hB hE11 hsz
  replace hrc2 := hrc2.ext hE11
  replace ho3 := own_ext ho3 hE11
  replace hos3 := hos3.ext hE11
  replace ho5 := own_ext ho5 hE11
  replace ho6 := own_ext ho6 hE11
  replace ho7 := own_ext ho7 hE11
  replace hos8 := hos8.ext hE11
  replace ho8 := own_ext ho8 hE11
  replace hsz := Nat.le_trans hsz hE11.size
  refine l_o (o_buildSlice (el := 25) (cs := [.slice (some ⟨b11, 0, none⟩) 2 2]) Try.underlying48 el25 (by decide) (by kernel_rfl) rfl (by decide) rfl ?_)
  intro b12 w12 hzl12 hzr12 _ hb12 hE12 ho12
  have hszq12 : w.heap.size ≤ w11.heap.size := hsz
  have hbs_b12 : w.heap.size ≤ b12 := Nat.le_trans hsz hzl12
  replace hB := below_ext hB hE12 hsz
  replace hrc2 := hrc2.ext hE12
  replace ho3 := own_ext ho3 hE12
  replace hos3 := hos3.ext hE12
  replace ho5 := own_ext ho5 hE12
  replace ho6 := own_ext ho6 hE12
  replace ho7 := own_ext ho7 hE12
  replace hos8 := hos8.ext hE12
  replace ho8 := own_ext ho8 hE12
  replace ho11 := own_ext ho11 hE12
  replace hsz := Nat.le_trans hsz hE12.size
  have hos12 : OwnsI w12 w.heap.size 3 [⟨some ⟨b11, 0, none⟩, 2, [5, 5]⟩] := OwnsI.snoc (OwnsI.nil _ _ _) (own_mono ho11 (by omega))
  refine l_o (o_call Try.call37 rfl (frepeat_ret _ _ [⟨some ⟨b11, 0, none⟩, 2, [5, 5]⟩] _ (Row.of_owns ho12) hos12.rows (by simp) (by simp)) rfl ?_)
  rintro _ w13 ⟨rfl, hE13⟩
  replace hB := below_ext hB hE13 hsz
  replace hrc2 := hrc2.ext hE13
  replace ho3 := own_ext ho3 hE13
  replace hos3 := hos3.ext hE13
  replace ho5 := own_ext ho5 hE13
  replace ho6 := own_ext ho6 hE13
  replace ho7 := own_ext ho7 hE13
  replace hos8 := hos8.ext hE13
  replace ho8 := own_ext ho8 hE13
  replace ho11 := own_ext ho11 hE13
  replace hos12 := hos12.ext hE13
  replace ho12 := own_ext ho12 hE13
  replace hsz := Nat.le_trans hsz hE13.size
  refine l_q (q_move (v := .tuple _) rfl rfl) ?_
  refine l_q (q_extract (vs := [_, _, _]) (v := .int _ _) rfl rfl rfl) ?_
  refine l_q (q_extract (vs := [_, _, _]) (v := .int _ _) rfl rfl rfl) ?_
  refine l_q (q_extract (vs := [_, _, _]) (v := .int _ _) rfl rfl rfl) ?_
  refine l_q (q_assign (v := .int _ _) rfl rfl) ?_
  refine l_q (q_assign (v := .int _ _) rfl rfl) ?_
  refine l_q (q_assign (v := .int _ _) rfl rfl) ?_
  refine l_nil ?_
  refine r_forget [(1, .slice _ _ _), (2, .int _ _), (3, .int _ _), (4, .int _ _), (5, .int _ _), (6, .int _ _), (7, .int _ _), (8, .int _ _)] ⟨rfl, rfl, rfl, rfl, rfl, rfl, rfl, rfl, trivial⟩ (fun e14 => ?_)
  refine r_seq ?_
  refine r_seq ?_
  refine r_region' ?_
  refine l_q (q_move (v := .int _ _) rfl rfl) ?_
  refine l_q (q_neq rfl rfl rfl) ?_
  refine l_q (q_move (v := .bool _) rfl rfl) ?_
  have hk15 : (!decide ((txErr three [46, 46] 0 2) = 0)) = false := by decide +kernel
  refine l_part 49 rfl (fun hx => absurd (hk15.symm.trans hx) (by decide)) (fun _ => ?_)
  refine l_q (q_move (v := .slice _ _ _) rfl rfl) ?_
  refine l_o (o_buildSlice (el := 3) (cs := [vint 2]) Try.underlying25 el3 (by decide) (by kernel_rfl) rfl (by decide) rfl ?_)
  intro b16 w16 hzl16 hzr16 _ hb16 hE16 ho16
  have hszq16 : w.heap.size ≤ w13.heap.size := hsz
  have hbs_b16 : w.heap.size ≤ b16 := Nat.le_trans hsz hzl16
  replace hB := below_ext hB hE16 hsz
  replace hrc2 := hrc2.ext hE16
  replace ho3 := own_ext ho3 hE16
  replace hos3 := hos3.ext hE16
  replace ho5 := own_ext ho5 hE16
  replace ho6 := own_ext ho6 hE16
  replace ho7 := own_ext ho7 hE16
  replace hos8 := hos8.ext hE16
  replace ho8 := own_ext ho8 hE16
  replace ho11 := own_ext ho11 hE16
  replace hos12 := hos12.ext hE16
  replace ho12 := own_ext ho12 hE16
  replace hsz := Nat.le_trans hsz hE16.size
  refine l_o (o_buildSlice (el := 25) (cs := [.slice (some ⟨b16, 0, none⟩) 1 1]) Try.underlying48 el25 (by decide) (by kernel_rfl) rfl (by decide) rfl ?_)
  intro b17 w17 hzl17 hzr17 _ hb17 hE17 ho17
  have hszq17 : w.heap.size ≤ w16.heap.size := hsz
  have hbs_b17 : w.heap.size ≤ b17 := Nat.le_trans hsz hzl17
  replace hB := below_ext hB hE17 hsz
  replace hrc2 := hrc2.ext hE17
  replace ho3 := own_ext ho3 hE17
  replace hos3 := hos3.ext hE17
  replace ho5 := own_ext ho5 hE17
  replace ho6 := own_ext ho6 hE17
  replace ho7 := own_ext ho7 hE17
  replace hos8 := hos8.ext hE17
  replace ho8 := own_ext ho8 hE17
  replace ho11 := own_ext ho11 hE17
  replace hos12 := hos12.ext hE17
  replace ho12 := own_ext ho12 hE17
  replace ho16 := own_ext ho16 hE17
  replace hsz := Nat.le_trans hsz hE17.size
  have hos17 : OwnsI w17 w.heap.size 3 [⟨some ⟨b16, 0, none⟩, 1, [2]⟩] := OwnsI.snoc (OwnsI.nil _ _ _) (own_mono ho16 (by omega))
  refine l_o (o_call Try.call34 rfl (lsame_ret _ _ L3 _ _ [⟨some ⟨b16, 0, none⟩, 1, [2]⟩] _ (Row.of_owns ho3) hos3.rows (by have h := congrArg List.length (hmt.trans tx_n); rw [List.length_map] at h; rw [h]; decide) (tx_n2 hmt) (Row.of_owns ho17) hos17.rows (by simp) (by simp)) rfl ?_)
  rintro _ w18 ⟨rfl, hE18⟩
  replace hB := below_ext hB hE18 hsz
  replace hrc2 := hrc2.ext hE18
  replace ho3 := own_ext ho3 hE18
  replace hos3 := hos3.ext hE18
  replace ho5 := own_ext ho5 hE18
  replace ho6 := own_ext ho6 hE18
  replace ho7 := own_ext ho7 hE18
  replace hos8 := hos8.ext hE18
  replace ho8 := own_ext ho8 hE18
  replace ho11 := own_ext ho11 hE18
  replace hos12 := hos12.ext hE18
  replace ho12 := own_ext ho12 hE18
  replace ho16 := own_ext ho16 hE18
  replace hos17 := hos17.ext hE18
  replace ho17 := own_ext ho17 hE18
  replace hsz := Nat.le_trans hsz hE18.size
  refine l_q (q_not rfl rfl) ?_
  refine l_q (q_pick_f (v := .bool _) rfl rfl rfl) ?_
  refine l_q (q_move (v := .bool _) rfl rfl) ?_
  have hk19 : (!(decide ((L3).map (·.xs) = [[2]]))) = false := by rw [hmt]; decide +kernel
  refine l_part 56 rfl (fun hx => absurd (hk19.symm.trans hx) (by decide)) (fun _ => ?_)
  refine l_q (q_move (v := .int _ _) rfl rfl) ?_
  refine l_q (q_neq rfl rfl rfl) ?_
  refine l_q (q_pick_f (v := .bool _) rfl rfl rfl) ?_
  refine l_q (q_move (v := .bool _) rfl rfl) ?_
  have hk20 : (!decide (((repAll [[1], [2], [0, 0]]).2.2) = 0)) = false := by decide +kernel
  refine l_part 60 rfl (fun hx => absurd (hk20.symm.trans hx) (by decide)) (fun _ => ?_)
  refine l_q (q_move (v := .int _ _) rfl rfl) ?_
  refine l_q (q_neq rfl rfl rfl) ?_
  refine l_q (q_pick_f (v := .bool _) rfl rfl rfl) ?_
  refine l_q (q_move (v := .bool _) rfl rfl) ?_
  have hk21 : (!decide (((repAll [[1], [2], [0, 0]]).1) = 0)) = false := by decide +kernel
  refine l_part 64 rfl (fun hx => absurd (hk21.symm.trans hx) (by decide)) (fun _ => ?_)
  refine l_q (q_move (v := .int _ _) rfl rfl) ?_
  refine l_q (q_neq rfl rfl rfl) ?_
  refine l_q (q_pick_f (v := .bool _) rfl rfl rfl) ?_
  refine l_q (q_move (v := .bool _) rfl rfl) ?_
  have hk22 : (!decide (((repAll [[1], [2], [0, 0]]).2.1) = 1)) = false := by decide +kernel
  refine l_part 68 rfl (fun hx => absurd (hk22.symm.trans hx) (by decide)) (fun _ => ?_)
  refine l_q (q_move (v := .int _ _) rfl rfl) ?_
  refine l_q (q_neq rfl rfl rfl) ?_
  refine l_q (q_pick_f (v := .bool _) rfl rfl rfl) ?_
  refine l_q (q_move (v := .bool _) rfl rfl) ?_
  have hk23 : (!decide (((repAll [[5, 5]]).2.2) = 0)) = false := by decide +kernel
  refine l_part 72 rfl (fun hx => absurd (hk23.symm.trans hx) (by decide)) (fun _ => ?_)
  refine l_q (q_move (v := .int _ _) rfl rfl) ?_
  refine l_q (q_neq rfl rfl rfl) ?_
  refine l_q (q_pick_f (v := .bool _) rfl rfl rfl) ?_
  refine l_q (q_move (v := .bool _) rfl rfl) ?_
  have hk24 : (!decide (((repAll [[5, 5]]).1) = 0)) = false := by decide +kernel
  refine l_part 76 rfl (fun hx => absurd (hk24.symm.trans hx) (by decide)) (fun _ => ?_)
  refine l_q (q_move (v := .int _ _) rfl rfl) ?_
  refine l_q (q_neq rfl rfl rfl) ?_
  refine l_q (q_pick_f (v := .bool _) rfl rfl rfl) ?_
  refine l_q (q_move (v := .bool _) rfl rfl) ?_
  have hk25 : (!decide (((repAll [[5, 5]]).2.1) = 0)) = false := by decide +kernel
  refine l_part 80 rfl (fun hx => absurd (hk25.symm.trans hx) (by decide)) (fun _ => ?_)
  refine l_o (o_buildSlice (el := 3) (cs := [vint 2, vint 0, vint 0]) Try.underlying25 el3 (by decide) (by kernel_rfl) rfl (by decide) rfl ?_)
  intro b26 w26 hzl26 hzr26 _ hb26 hE26 ho26
  have hszq26 : w.heap.size ≤ w18.heap.size := hsz
  have hbs_b26 : w.heap.size ≤ b26 := Nat.le_trans hsz hzl26
  replace hB := below_ext hB hE26 hsz
  replace hrc2 := hrc2.ext hE26
  replace ho3 := own_ext ho3 hE26
  replace hos3 := hos3.ext hE26
  replace ho5 := own_ext ho5 hE26
  replace ho6 := own_ext ho6 hE26
  replace ho7 := own_ext ho7 hE26
  replace hos8 := hos8.ext hE26
  replace ho8 := own_ext ho8 hE26
  replace ho11 := own_ext ho11 hE26
  replace hos12 := hos12.ext hE26
  replace ho12 := own_ext ho12 hE26
  replace ho16 := own_ext ho16 hE26
  replace hos17 := hos17.ext hE26
  replace ho17 := own_ext ho17 hE26
  replace hsz := Nat.le_trans hsz hE26.size
  refine l_o (o_call Try.call47 rfl (prove_ret [45, 32, 46] [46, 46, 32, 46] _ _ [2, 0, 0] 1 _ (by decide) (by decide) (Row.of_owns ho26) (by decide) (by decide)) rfl ?_)
  rintro _ w27 ⟨rfl, hE27⟩
  replace hB := below_ext hB hE27 hsz
  replace hrc2 := hrc2.ext hE27
  replace ho3 := own_ext ho3 hE27
  replace hos3 := hos3.ext hE27
  replace ho5 := own_ext ho5 hE27
  replace ho6 := own_ext ho6 hE27
  replace ho7 := own_ext ho7 hE27
  replace hos8 := hos8.ext hE27
  replace ho8 := own_ext ho8 hE27
  replace ho11 := own_ext ho11 hE27
  replace hos12 := hos12.ext hE27
  replace ho12 := own_ext ho12 hE27
  replace ho16 := own_ext ho16 hE27
  replace hos17 := hos17.ext hE27
  replace ho17 := own_ext ho17 hE27
  replace ho26 := own_ext ho26 hE27
  replace hsz := Nat.le_trans hsz hE27.size
  refine l_q (q_not rfl rfl) ?_
  refine l_q (q_pick_f (v := .bool _) rfl rfl rfl) ?_
  refine l_q (q_move (v := .bool _) rfl rfl) ?_
  have hk28 : (!(provB [45, 32, 46] [46, 46, 32, 46] [2, 0, 0] 1)) = false := by decide +kernel
  refine l_part 85 rfl (fun hx => absurd (hk28.symm.trans hx) (by decide)) (fun _ => ?_)
  refine l_o (o_buildSlice (el := 3) (cs := [vint 2, vint 0, vint 0]) Try.underlying25 el3 (by decide) (by kernel_rfl) rfl (by decide) rfl ?_)
  intro b29 w29 hzl29 hzr29 _ hb29 hE29 ho29
  have hszq29 : w.heap.size ≤ w27.heap.size := hsz
  have hbs_b29 : w.heap.size ≤ b29 := Nat.le_trans hsz hzl29
  replace hB := below_ext hB hE29 hsz
  replace hrc2 := hrc2.ext hE29
  replace ho3 := own_ext ho3 hE29
  replace hos3 := hos3.ext hE29
  replace ho5 := own_ext ho5 hE29
  replace ho6 := own_ext ho6 hE29
  replace ho7 := own_ext ho7 hE29
  replace hos8 := hos8.ext hE29
  replace ho8 := own_ext ho8 hE29
  replace ho11 := own_ext ho11 hE29
  replace hos12 := hos12.ext hE29
  replace ho12 := own_ext ho12 hE29
  replace ho16 := own_ext ho16 hE29
  replace hos17 := hos17.ext hE29
  replace ho17 := own_ext ho17 hE29
  replace ho26 := own_ext ho26 hE29
  replace hsz := Nat.le_trans hsz hE29.size
  refine l_o (o_call Try.call47 rfl (prove_ret [45, 32, 46] [46, 46, 32, 46] _ _ [2, 0, 0] 0 _ (by decide) (by decide) (Row.of_owns ho29) (by decide) (by decide)) rfl ?_)
  rintro _ w30 ⟨rfl, hE30⟩
  replace hB := below_ext hB hE30 hsz
  replace hrc2 := hrc2.ext hE30
  replace ho3 := own_ext ho3 hE30
  replace hos3 := hos3.ext hE30
  replace ho5 := own_ext ho5 hE30
  replace ho6 := own_ext ho6 hE30
  replace ho7 := own_ext ho7 hE30
  replace hos8 := hos8.ext hE30
  replace ho8 := own_ext ho8 hE30
  replace ho11 := own_ext ho11 hE30
  replace hos12 := hos12.ext hE30
  replace ho12 := own_ext ho12 hE30
  replace ho16 := own_ext ho16 hE30
  replace hos17 := hos17.ext hE30
  replace ho17 := own_ext ho17 hE30
  replace ho26 := own_ext ho26 hE30
  replace ho29 := own_ext ho29 hE30
  replace hsz := Nat.le_trans hsz hE30.size
  refine l_q (q_pick_f (v := .bool _) rfl rfl rfl) ?_
  refine l_q (q_move (v := .bool _) rfl rfl) ?_
  have hk31 : (provB [45, 32, 46] [46, 46, 32, 46] [2, 0, 0] 0) = false := by decide +kernel
  refine l_part 89 rfl (fun hx => absurd (hk31.symm.trans hx) (by decide)) (fun _ => ?_)
  refine l_o (o_buildSlice (el := 3) (cs := [vint 2, vint 0]) Try.underlying25 el3 (by decide) (by kernel_rfl) rfl (by decide) rfl ?_)
  intro b32 w32 hzl32 hzr32 _ hb32 hE32 ho32
  have hszq32 : w.heap.size ≤ w30.heap.size := hsz
  have hbs_b32 : w.heap.size ≤ b32 := Nat.le_trans hsz hzl32
  replace hB := below_ext hB hE32 hsz
  replace hrc2 := hrc2.ext hE32
  replace ho3 := own_ext ho3 hE32
  replace hos3 := hos3.ext hE32
  replace ho5 := own_ext ho5 hE32
  replace ho6 := own_ext ho6 hE32
  replace ho7 := own_ext ho7 hE32
  replace hos8 := hos8.ext hE32
  replace ho8 := own_ext ho8 hE32
  replace ho11 := own_ext ho11 hE32
  replace hos12 := hos12.ext hE32
  replace ho12 := own_ext ho12 hE32
  replace ho16 := own_ext ho16 hE32
  replace hos17 := hos17.ext hE32
  replace ho17 := own_ext ho17 hE32
  replace ho26 := own_ext ho26 hE32
  replace ho29 := own_ext ho29 hE32
  replace hsz := Nat.le_trans hsz hE32.size
  refine l_o (o_call Try.call47 rfl (prove_ret [45, 32, 46] [46, 46, 32, 46] _ _ [2, 0] 9 _ (by decide) (by decide) (Row.of_owns ho32) (by decide) (by decide)) rfl ?_)
  rintro _ w33 ⟨rfl, hE33⟩
  replace hB := below_ext hB hE33 hsz
  replace hrc2 := hrc2.ext hE33
  replace ho3 := own_ext ho3 hE33
  replace hos3 := hos3.ext hE33
  replace ho5 := own_ext ho5 hE33
  replace ho6 := own_ext ho6 hE33
  replace ho7 := own_ext ho7 hE33
  replace hos8 := hos8.ext hE33
  replace ho8 := own_ext ho8 hE33
  replace ho11 := own_ext ho11 hE33
  replace hos12 := hos12.ext hE33
  replace ho12 := own_ext ho12 hE33
  replace ho16 := own_ext ho16 hE33
  replace hos17 := hos17.ext hE33
  replace ho17 := own_ext ho17 hE33
  replace ho26 := own_ext ho26 hE33
  replace ho29 := own_ext ho29 hE33
  replace ho32 := own_ext ho32 hE33
  replace hsz := Nat.le_trans hsz hE33.size
  refine l_q (q_pick_f (v := .bool _) rfl rfl rfl) ?_
  refine l_q (q_move (v := .bool _) rfl rfl) ?_
  have hk34 : (provB [45, 32, 46] [46, 46, 32, 46] [2, 0] 9) = false := by decide +kernel
  refine l_part 93 rfl (fun hx => absurd (hk34.symm.trans hx) (by decide)) (fun _ => ?_)
  refine l_o (o_buildSlice (el := 3) (cs := [vint 0, vint 0, vint 0]) Try.underlying25 el3 (by decide) (by kernel_rfl) rfl (by decide) rfl ?_)
  intro b35 w35 hzl35 hzr35 _ hb35 hE35 ho35
  have hszq35 : w.heap.size ≤ w33.heap.size := hsz
  have hbs_b35 : w.heap.size ≤ b35 := Nat.le_trans hsz hzl35
  replace hB := below_ext hB hE35 hsz
  replace hrc2 := hrc2.ext hE35
  replace ho3 := own_ext ho3 hE35
  replace hos3 := hos3.ext hE35
  replace ho5 := own_ext ho5 hE35
  replace ho6 := own_ext ho6 hE35
  replace ho7 := own_ext ho7 hE35
  replace hos8 := hos8.ext hE35
  replace ho8 := own_ext ho8 hE35
  replace ho11 := own_ext ho11 hE35
  replace hos12 := hos12.ext hE35
  replace ho12 := own_ext ho12 hE35
  replace ho16 := own_ext ho16 hE35
  replace hos17 := hos17.ext hE35
  replace ho17 := own_ext ho17 hE35
  replace ho26 := own_ext ho26 hE35
  replace ho29 := own_ext ho29 hE35
  replace ho32 := own_ext ho32 hE35
  replace hsz := Nat.le_trans hsz hE35.size
  refine l_o (o_call Try.call47 rfl (prove_ret [45, 32, 46] [46, 46, 32, 46] _ _ [0, 0, 0] 9 _ (by decide) (by decide) (Row.of_owns ho35) (by decide) (by decide)) rfl ?_)
  rintro _ w36 ⟨rfl, hE36⟩
  replace hB := below_ext hB hE36 hsz
  replace hrc2 := hrc2.ext hE36
  replace ho3 := own_ext ho3 hE36
  replace hos3 := hos3.ext hE36
  replace ho5 := own_ext ho5 hE36
  replace ho6 := own_ext ho6 hE36
  replace ho7 := own_ext ho7 hE36
  replace hos8 := hos8.ext hE36
  replace ho8 := own_ext ho8 hE36
  replace ho11 := own_ext ho11 hE36
  replace hos12 := hos12.ext hE36
  replace ho12 := own_ext ho12 hE36
  replace ho16 := own_ext ho16 hE36
  replace hos17 := hos17.ext hE36
  replace ho17 := own_ext ho17 hE36
  replace ho26 := own_ext ho26 hE36
  replace ho29 := own_ext ho29 hE36
  replace ho32 := own_ext ho32 hE36
  replace ho35 := own_ext ho35 hE36
  replace hsz := Nat.le_trans hsz hE36.size
  refine l_q (q_pick_f (v := .bool _) rfl rfl rfl) ?_
  refine l_nil ?_
  refine r_forget [(96, .bool _)] ⟨rfl, trivial⟩ (fun e37 => ?_)
  have hk38 : (provB [45, 32, 46] [46, 46, 32, 46] [0, 0, 0] 9) = false := by decide +kernel
  refine r_cond_f ((congrArg Value.bool hk38 : Value.bool _ = _)) ?_
  refine r_skip ?_
  refine r_seq ?_
  refine r_region' ?_
  refine l_o (o_call Try.call26 rfl (errors_ret [46] [45] _ (by decide) (by decide)) rfl ?_)
  rintro _ w39 ⟨rfl, hE39⟩
  replace hB := below_ext hB hE39 hsz
  replace hrc2 := hrc2.ext hE39
  replace ho3 := own_ext ho3 hE39
  replace hos3 := hos3.ext hE39
  replace ho5 := own_ext ho5 hE39
  replace ho6 := own_ext ho6 hE39
  replace ho7 := own_ext ho7 hE39
  replace hos8 := hos8.ext hE39
  replace ho8 := own_ext ho8 hE39
  replace ho11 := own_ext ho11 hE39
  replace hos12 := hos12.ext hE39
  replace ho12 := own_ext ho12 hE39
  replace ho16 := own_ext ho16 hE39
  replace hos17 := hos17.ext hE39
  replace ho17 := own_ext ho17 hE39
  replace ho26 := own_ext ho26 hE39
  replace ho29 := own_ext ho29 hE39
  replace ho32 := own_ext ho32 hE39
  replace ho35 := own_ext ho35 hE39
  replace hsz := Nat.le_trans hsz hE39.size
  refine l_q (q_move (v := .tuple _) rfl rfl) ?_
  refine l_q (q_extract (vs := [_, _]) (v := .int _ _) rfl rfl rfl) ?_
  refine l_q (q_extract (vs := [_, _]) (v := .int _ _) rfl rfl rfl) ?_
  refine l_q (q_assign (v := .int _ _) rfl rfl) ?_
  refine l_nil ?_
  refine r_forget [(2, .int _ _)] ⟨rfl, trivial⟩ (fun e40 => ?_)
  refine r_seq ?_
  refine r_region' ?_
  refine l_o (o_call Try.call26 rfl (errors_ret [46] [120] _ (by decide) (by decide)) rfl ?_)
  rintro _ w41 ⟨rfl, hE41⟩
  replace hB := below_ext hB hE41 hsz
  replace hrc2 := hrc2.ext hE41
  replace ho3 := own_ext ho3 hE41
  replace hos3 := hos3.ext hE41
  replace ho5 := own_ext ho5 hE41
  replace ho6 := own_ext ho6 hE41
  replace ho7 := own_ext ho7 hE41
  replace hos8 := hos8.ext hE41
  replace ho8 := own_ext ho8 hE41
  replace ho11 := own_ext ho11 hE41
  replace hos12 := hos12.ext hE41
  replace ho12 := own_ext ho12 hE41
  replace ho16 := own_ext ho16 hE41
  replace hos17 := hos17.ext hE41
  replace ho17 := own_ext ho17 hE41
  replace ho26 := own_ext ho26 hE41
  replace ho29 := own_ext ho29 hE41
  replace ho32 := own_ext ho32 hE41
  replace ho35 := own_ext ho35 hE41
  replace hsz := Nat.le_trans hsz hE41.size
  refine l_q (q_move (v := .tuple _) rfl rfl) ?_
  refine l_q (q_extract (vs := [_, _]) (v := .int _ _) rfl rfl rfl) ?_
  refine l_q (q_extract (vs := [_, _]) (v := .int _ _) rfl rfl rfl) ?_
  refine l_q (q_assign (v := .int _ _) rfl rfl) ?_
  refine l_nil ?_
  refine r_forget [(2, .int _ _), (5, .int _ _)] ⟨rfl, rfl, trivial⟩ (fun e42 => ?_)
  refine r_seq ?_
  refine r_region' ?_
  refine l_o (o_makeSlice (n := 41) Try.underlying72 el5 (rfl) (rfl) (by omega) (by unfold maxLen; omega) rfl ?_)
  intro b43 w43 hzl43 hzr43 _ hb43 hE43 ho43
  rw [made_one _ _ rfl] at hb43 ho43
  have hbs_b43 : w.heap.size ≤ b43 := Nat.le_trans hsz hzl43
  replace hB := below_ext hB hE43 hsz
  replace hrc2 := hrc2.ext hE43
  replace ho3 := own_ext ho3 hE43
  replace hos3 := hos3.ext hE43
  replace ho5 := own_ext ho5 hE43
  replace ho6 := own_ext ho6 hE43
  replace ho7 := own_ext ho7 hE43
  replace hos8 := hos8.ext hE43
  replace ho8 := own_ext ho8 hE43
  replace ho11 := own_ext ho11 hE43
  replace hos12 := hos12.ext hE43
  replace ho12 := own_ext ho12 hE43
  replace ho16 := own_ext ho16 hE43
  replace hos17 := hos17.ext hE43
  replace ho17 := own_ext ho17 hE43
  replace ho26 := own_ext ho26 hE43
  replace ho29 := own_ext ho29 hE43
  replace ho32 := own_ext ho32 hE43
  replace ho35 := own_ext ho35 hE43
  replace hsz := Nat.le_trans hsz hE43.size
  replace ho43 : w43.ownsRow w41.heap.size 5 1 (.slice (some ⟨b43, 0, none⟩) 41 41) 41 ((List.replicate 41 0).map (Value.int .u8)) := ho43
  refine l_q (q_toStr (l := (List.replicate 41 (0 : UInt8))) Try.underlying72 Try.underlying5 Try.underlying9 rfl (Row.of_owns ho43) (by decide) rfl rfl) ?_
  refine l_o (o_call Try.call27 rfl (explain_ret (List.replicate 41 (0 : UInt8)) [] _ (by decide) (by decide)) rfl ?_)
  rintro _ w44 ⟨a44_0, c44_0, rfl, ho44_0, hE44⟩
  replace ho44_0 := own_mono ho44_0 (show w.heap.size ≤ _ by omega)
  replace hB := below_ext hB hE44 hsz
  replace hrc2 := hrc2.ext hE44
  replace ho3 := own_ext ho3 hE44
  replace hos3 := hos3.ext hE44
  replace ho5 := own_ext ho5 hE44
  replace ho6 := own_ext ho6 hE44
  replace ho7 := own_ext ho7 hE44
  replace hos8 := hos8.ext hE44
  replace ho8 := own_ext ho8 hE44
  replace ho11 := own_ext ho11 hE44
  replace hos12 := hos12.ext hE44
  replace ho12 := own_ext ho12 hE44
  replace ho16 := own_ext ho16 hE44
  replace hos17 := hos17.ext hE44
  replace ho17 := own_ext ho17 hE44
  replace ho26 := own_ext ho26 hE44
  replace ho29 := own_ext ho29 hE44
  replace ho32 := own_ext ho32 hE44
  replace ho35 := own_ext ho35 hE44
  replace ho43 := own_ext ho43 hE44
  replace hsz := Nat.le_trans hsz hE44.size
  refine l_q (q_move (v := .tuple _) rfl rfl) ?_
  refine l_q (q_extract (vs := [_, _]) (v := .slice _ _ _) rfl rfl rfl) ?_
  refine l_q (q_extract (vs := [_, _]) (v := .int _ _) rfl rfl rfl) ?_
  refine l_q (q_assign (v := .int _ _) rfl rfl) ?_
  refine l_nil ?_
  refine r_forget [(2, .int _ _), (5, .int _ _), (8, .int _ _)] ⟨rfl, rfl, rfl, trivial⟩ (fun e45 => ?_)
  refine r_seq ?_
  refine r_region' ?_
  refine l_o (o_call Try.call46 rfl (three_ret _) rfl ?_)
  rintro _ w46 ⟨ca46, cc46, rfl, hrc46, hE46⟩
  replace hB := below_ext hB hE46 hsz
  replace hrc2 := hrc2.ext hE46
  replace ho3 := own_ext ho3 hE46
  replace hos3 := hos3.ext hE46
  replace ho5 := own_ext ho5 hE46
  replace ho6 := own_ext ho6 hE46
  replace ho7 := own_ext ho7 hE46
  replace hos8 := hos8.ext hE46
  replace ho8 := own_ext ho8 hE46
  replace ho11 := own_ext ho11 hE46
  replace hos12 := hos12.ext hE46
  replace ho12 := own_ext ho12 hE46
  replace ho16 := own_ext ho16 hE46
  replace hos17 := hos17.ext hE46
  replace ho17 := own_ext ho17 hE46
  replace ho26 := own_ext ho26 hE46
  replace ho29 := own_ext ho29 hE46
  replace ho32 := own_ext ho32 hE46
  replace ho35 := own_ext ho35 hE46
  replace ho43 := own_ext ho43 hE46
  replace ho44_0 := own_ext ho44_0 hE46
  replace hsz := Nat.le_trans hsz hE46.size
  refine l_o (o_call Try.call32 rfl (texts2_ret _ _ three [46, 46] 4 2 _ hrc46 (by decide) three_le (by decide)) rfl ?_)
  have hszp47 : w.heap.size ≤ w46.heap.size := hsz
  rintro _ w47 ⟨oa47, oc47, L47, rfl, ho47, hos47, hm47, hE47⟩
  replace ho47 := own_mono ho47 (show w.heap.size ≤ _ by omega)
  replace hB := below_ext hB hE47 hsz
  replace hrc2 := hrc2.ext hE47
  replace ho3 := own_ext ho3 hE47
  replace hos3 := hos3.ext hE47
  replace ho5 := own_ext ho5 hE47
  replace ho6 := own_ext ho6 hE47
  replace ho7 := own_ext ho7 hE47
  replace hos8 := hos8.ext hE47
  replace ho8 := own_ext ho8 hE47
  replace ho11 := own_ext ho11 hE47
  replace hos12 := hos12.ext hE47
  replace ho12 := own_ext ho12 hE47
  replace ho16 := own_ext ho16 hE47
  replace hos17 := hos17.ext hE47
  replace ho17 := own_ext ho17 hE47
  replace ho26 := own_ext ho26 hE47
  replace ho29 := own_ext ho29 hE47
  replace ho32 := own_ext ho32 hE47
  replace ho35 := own_ext ho35 hE47
  replace ho43 := own_ext ho43 hE47
  replace ho44_0 := own_ext ho44_0 hE47
  replace hrc46 := hrc46.ext hE47
  replace hsz := Nat.le_trans hsz hE47.size
  refine l_q (q_move (v := .tuple _) rfl rfl) ?_
  refine l_q (q_extract (vs := [_, _]) (v := .slice _ _ _) rfl rfl rfl) ?_
  refine l_q (q_extract (vs := [_, _]) (v := .int _ _) rfl rfl rfl) ?_
  refine l_q (q_assign (v := .slice _ _ _) rfl rfl) ?_
  refine l_q (q_assign (v := .int _ _) rfl rfl) ?_
  refine l_nil ?_
  refine r_forget [(2, .int _ _), (5, .int _ _), (8, .int _ _), (10, .int _ _)] ⟨rfl, rfl, rfl, rfl, trivial⟩ (fun e48 => ?_)
  refine r_seq ?_
  refine r_region' ?_
  refine l_o (o_call Try.call46 rfl (three_ret _) rfl ?_)
  rintro _ w49 ⟨ca49, cc49, rfl, hrc49, hE49⟩
  replace hB := below_ext hB hE49 hsz
  replace hrc2 := hrc2.ext hE49
  replace ho3 := own_ext ho3 hE49
  replace hos3 := hos3.ext hE49
  replace ho5 := own_ext ho5 hE49
  replace ho6 := own_ext ho6 hE49
  replace ho7 := own_ext ho7 hE49
  replace hos8 := hos8.ext hE49
  replace ho8 := own_ext ho8 hE49
  replace ho11 := own_ext ho11 hE49
  replace hos12 := hos12.ext hE49
  replace ho12 := own_ext ho12 hE49
  replace ho16 := own_ext ho16 hE49
  replace hos17 := hos17.ext hE49
  replace ho17 := own_ext ho17 hE49
  replace ho26 := own_ext ho26 hE49
  replace ho29 := own_ext ho29 hE49
  replace ho32 := own_ext ho32 hE49
  replace ho35 := own_ext ho35 hE49
  replace ho43 := own_ext ho43 hE49
  replace ho44_0 := own_ext ho44_0 hE49
  replace hrc46 := hrc46.ext hE49
  replace ho47 := own_ext ho47 hE49
  replace hos47 := hos47.ext hE49
  replace hsz := Nat.le_trans hsz hE49.size
  refine l_o (o_call Try.call32 rfl (texts2_ret _ _ three [46, 46] 1 6 _ hrc49 (by decide) three_le (by decide)) rfl ?_)
  have hszp50 : w.heap.size ≤ w49.heap.size := hsz
  rintro _ w50 ⟨oa50, oc50, L50, rfl, ho50, hos50, hm50, hE50⟩
  replace ho50 := own_mono ho50 (show w.heap.size ≤ _ by omega)
  replace hB := below_ext hB hE50 hsz
  replace hrc2 := hrc2.ext hE50
  replace ho3 := own_ext ho3 hE50
  replace hos3 := hos3.ext hE50
  replace ho5 := own_ext ho5 hE50
  replace ho6 := own_ext ho6 hE50
  replace ho7 := own_ext ho7 hE50
  replace hos8 := hos8.ext hE50
  replace ho8 := own_ext ho8 hE50
  replace ho11 := own_ext ho11 hE50
  replace hos12 := hos12.ext hE50
  replace ho12 := own_ext ho12 hE50
  replace ho16 := own_ext ho16 hE50
  replace hos17 := hos17.ext hE50
  replace ho17 := own_ext ho17 hE50
  replace ho26 := own_ext ho26 hE50
  replace ho29 := own_ext ho29 hE50
  replace ho32 := own_ext ho32 hE50
  replace ho35 := own_ext ho35 hE50
  replace ho43 := own_ext ho43 hE50
  replace ho44_0 := own_ext ho44_0 hE50
  replace hrc46 := hrc46.ext hE50
  replace ho47 := own_ext ho47 hE50
  replace hos47 := hos47.ext hE50
  replace hrc49 := hrc49.ext hE50
  replace hsz := Nat.le_trans hsz hE50.size
  refine l_q (q_move (v := .tuple _) rfl rfl) ?_
  refine l_q (q_extract (vs := [_, _]) (v := .slice _ _ _) rfl rfl rfl) ?_
  refine l_q (q_extract (vs := [_, _]) (v := .int _ _) rfl rfl rfl) ?_
  refine l_q (q_assign (v := .slice _ _ _) rfl rfl) ?_
  refine l_q (q_assign (v := .int _ _) rfl rfl) ?_
  refine l_nil ?_
  refine r_forget [(2, .int _ _), (5, .int _ _), (8, .int _ _), (10, .int _ _), (12, .int _ _)] ⟨rfl, rfl, rfl, rfl, rfl, trivial⟩ (fun e51 => ?_)
  refine r_seq ?_
  refine r_region' ?_
  refine l_o (o_call Try.call46 rfl (three_ret _) rfl ?_)
  rintro _ w52 ⟨ca52, cc52, rfl, hrc52, hE52⟩
  replace hB := below_ext hB hE52 hsz
  replace hrc2 := hrc2.ext hE52
  replace ho3 := own_ext ho3 hE52
  replace hos3 := hos3.ext hE52
  replace ho5 := own_ext ho5 hE52
  replace ho6 := own_ext ho6 hE52
  replace ho7 := own_ext ho7 hE52
  replace hos8 := hos8.ext hE52
  replace ho8 := own_ext ho8 hE52
  replace ho11 := own_ext ho11 hE52
  replace hos12 := hos12.ext hE52
  replace ho12 := own_ext ho12 hE52
  replace ho16 := own_ext ho16 hE52
  replace hos17 := hos17.ext hE52
  replace ho17 := own_ext ho17 hE52
  replace ho26 := own_ext ho26 hE52
  replace ho29 := own_ext ho29 hE52
  replace ho32 := own_ext ho32 hE52
  replace ho35 := own_ext ho35 hE52
  replace ho43 := own_ext ho43 hE52
  replace ho44_0 := own_ext ho44_0 hE52
  replace hrc46 := hrc46.ext hE52
  replace ho47 := own_ext ho47 hE52
  replace hos47 := hos47.ext hE52
  replace hrc49 := hrc49.ext hE52
  replace ho50 := own_ext ho50 hE52
  replace hos50 := hos50.ext hE52
  replace hsz := Nat.le_trans hsz hE52.size
  refine l_o (o_buildSlice (el := 3) (cs := [vint 3]) Try.underlying25 el3 (by decide) (by kernel_rfl) rfl (by decide) rfl ?_)
  intro b53 w53 hzl53 hzr53 _ hb53 hE53 ho53
  have hszq53 : w.heap.size ≤ w52.heap.size := hsz
  have hbs_b53 : w.heap.size ≤ b53 := Nat.le_trans hsz hzl53
  replace hB := below_ext hB hE53 hsz
  replace hrc2 := hrc2.ext hE53
  replace ho3 := own_ext ho3 hE53
  replace hos3 := hos3.ext hE53
  replace ho5 := own_ext ho5 hE53
  replace ho6 := own_ext ho6 hE53
  replace ho7 := own_ext ho7 hE53
  replace hos8 := hos8.ext hE53
  replace ho8 := own_ext ho8 hE53
  replace ho11 := own_ext ho11 hE53
  replace hos12 := hos12.ext hE53
  replace ho12 := own_ext ho12 hE53
  replace ho16 := own_ext ho16 hE53
  replace hos17 := hos17.ext hE53
  replace ho17 := own_ext ho17 hE53
  replace ho26 := own_ext ho26 hE53
  replace ho29 := own_ext ho29 hE53
  replace ho32 := own_ext ho32 hE53
  replace ho35 := own_ext ho35 hE53
  replace ho43 := own_ext ho43 hE53
  replace ho44_0 := own_ext ho44_0 hE53
  replace hrc46 := hrc46.ext hE53
  replace ho47 := own_ext ho47 hE53
  replace hos47 := hos47.ext hE53
  replace hrc49 := hrc49.ext hE53
  replace ho50 := own_ext ho50 hE53
  replace hos50 := hos50.ext hE53
  replace hrc52 := hrc52.ext hE53
  replace hsz := Nat.le_trans hsz hE53.size
  refine l_o (o_call Try.call21 rfl (send_ret _ _ three _ _ [3] _ hrc52 (by decide) (Row.of_owns ho53) (by decide) three_le) rfl ?_)
  rintro _ w54 ⟨rfl, hE54⟩
  replace hB := below_ext hB hE54 hsz
  replace hrc2 := hrc2.ext hE54
  replace ho3 := own_ext ho3 hE54
  replace hos3 := hos3.ext hE54
  replace ho5 := own_ext ho5 hE54
  replace ho6 := own_ext ho6 hE54
  replace ho7 := own_ext ho7 hE54
  replace hos8 := hos8.ext hE54
  replace ho8 := own_ext ho8 hE54
  replace ho11 := own_ext ho11 hE54
  replace hos12 := hos12.ext hE54
  replace ho12 := own_ext ho12 hE54
  replace ho16 := own_ext ho16 hE54
  replace hos17 := hos17.ext hE54
  replace ho17 := own_ext ho17 hE54
  replace ho26 := own_ext ho26 hE54
  replace ho29 := own_ext ho29 hE54
  replace ho32 := own_ext ho32 hE54
  replace ho35 := own_ext ho35 hE54
  replace ho43 := own_ext ho43 hE54
  replace ho44_0 := own_ext ho44_0 hE54
  replace hrc46 := hrc46.ext hE54
  replace ho47 := own_ext ho47 hE54
  replace hos47 := hos47.ext hE54
  replace hrc49 := hrc49.ext hE54
  replace ho50 := own_ext ho50 hE54
  replace hos50 := hos50.ext hE54
  replace hrc52 := hrc52.ext hE54
  replace ho53 := own_ext ho53 hE54
  replace hsz := Nat.le_trans hsz hE54.size
  refine l_q (q_move (v := .tuple _) rfl rfl) ?_
  refine l_q (q_extract (vs := [_, _]) (v := .string _) rfl rfl rfl) ?_
  refine l_q (q_extract (vs := [_, _]) (v := .int _ _) rfl rfl rfl) ?_
  refine l_q (q_assign (v := .string _) rfl rfl) ?_
  refine l_q (q_assign (v := .int _ _) rfl rfl) ?_
  refine l_nil ?_
  refine r_forget [(2, .int _ _), (5, .int _ _), (8, .int _ _), (10, .int _ _), (12, .int _ _), (14, .int _ _)] ⟨rfl, rfl, rfl, rfl, rfl, rfl, trivial⟩ (fun e55 => ?_)
  refine r_seq ?_
  refine r_draw3 ext_refl' ext_trans' (.fork 0 (.op 1 (.op 2 (.op 3 (.op 4 (.op 5 (.op 6 (.op 7 (.done)))))))) (.op 1 (.op 0 (.op 2 (.op 3 (.op 4 (.op 5 (.op 6 (.op 7 (.done)))))))))) [0, 1, 2] 9 (by kernel_rfl) (by kernel_rfl) ?_
  intro w56 _ hE56
  replace hB := below_ext hB hE56 hsz
  replace hrc2 := hrc2.ext hE56
  replace ho3 := own_ext ho3 hE56
  replace hos3 := hos3.ext hE56
  replace ho5 := own_ext ho5 hE56
  replace ho6 := own_ext ho6 hE56
  replace ho7 := own_ext ho7 hE56
  replace hos8 := hos8.ext hE56
  replace ho8 := own_ext ho8 hE56
  replace ho11 := own_ext ho11 hE56
  replace hos12 := hos12.ext hE56
  replace ho12 := own_ext ho12 hE56
  replace ho16 := own_ext ho16 hE56
  replace hos17 := hos17.ext hE56
  replace ho17 := own_ext ho17 hE56
  replace ho26 := own_ext ho26 hE56
  replace ho29 := own_ext ho29 hE56
  replace ho32 := own_ext ho32 hE56
  replace ho35 := own_ext ho35 hE56
  replace ho43 := own_ext ho43 hE56
  replace ho44_0 := own_ext ho44_0 hE56
  replace hrc46 := hrc46.ext hE56
  replace ho47 := own_ext ho47 hE56
  replace hos47 := hos47.ext hE56
  replace hrc49 := hrc49.ext hE56
  replace ho50 := own_ext ho50 hE56
  replace hos50 := hos50.ext hE56
  replace hrc52 := hrc52.ext hE56
  replace ho53 := own_ext ho53 hE56
  replace hsz := Nat.le_trans hsz hE56.size
  refine m_fork3 ?_ ?_
  · skip
    refine m_o3 rfl rfl (o_call Try.call46 rfl (three_ret _) rfl ?_)
    rintro _ w57 ⟨ca57, cc57, rfl, hrc57, hE57⟩
    refine ⟨hE57, ?_⟩
    replace hB := below_ext hB hE57 hsz
    replace hrc2 := hrc2.ext hE57
    replace ho3 := own_ext ho3 hE57
    replace hos3 := hos3.ext hE57
    replace ho5 := own_ext ho5 hE57
    replace ho6 := own_ext ho6 hE57
    replace ho7 := own_ext ho7 hE57
    replace hos8 := hos8.ext hE57
    replace ho8 := own_ext ho8 hE57
    replace ho11 := own_ext ho11 hE57
    replace hos12 := hos12.ext hE57
    replace ho12 := own_ext ho12 hE57
    replace ho16 := own_ext ho16 hE57
    replace hos17 := hos17.ext hE57
    replace ho17 := own_ext ho17 hE57
    replace ho26 := own_ext ho26 hE57
    replace ho29 := own_ext ho29 hE57
    replace ho32 := own_ext ho32 hE57
    replace ho35 := own_ext ho35 hE57
    replace ho43 := own_ext ho43 hE57
    replace ho44_0 := own_ext ho44_0 hE57
    replace hrc46 := hrc46.ext hE57
    replace ho47 := own_ext ho47 hE57
    replace hos47 := hos47.ext hE57
    replace hrc49 := hrc49.ext hE57
    replace ho50 := own_ext ho50 hE57
    replace hos50 := hos50.ext hE57
    replace hrc52 := hrc52.ext hE57
    replace ho53 := own_ext ho53 hE57
    replace hsz := Nat.le_trans hsz hE57.size
    refine m_o3 rfl rfl (o_makeSlice (n := 6) Try.underlying25 el3 (rfl) (rfl) (by omega) (by unfold maxLen; omega) rfl ?_)
    intro b58 w58 hzl58 hzr58 _ hb58 hE58 ho58
    refine ⟨hE58, ?_⟩
    rw [made_one _ _ rfl] at hb58 ho58
    have hbs_b58 : w.heap.size ≤ b58 := Nat.le_trans hsz hzl58
    replace hB := below_ext hB hE58 hsz
    replace hrc2 := hrc2.ext hE58
    replace ho3 := own_ext ho3 hE58
    replace hos3 := hos3.ext hE58
    replace ho5 := own_ext ho5 hE58
    replace ho6 := own_ext ho6 hE58
    replace ho7 := own_ext ho7 hE58
    replace hos8 := hos8.ext hE58
    replace ho8 := own_ext ho8 hE58
    replace ho11 := own_ext ho11 hE58
    replace hos12 := hos12.ext hE58
    replace ho12 := own_ext ho12 hE58
    replace ho16 := own_ext ho16 hE58
    replace hos17 := hos17.ext hE58
    replace ho17 := own_ext ho17 hE58
    replace ho26 := own_ext ho26 hE58
    replace ho29 := own_ext ho29 hE58
    replace ho32 := own_ext ho32 hE58
    replace ho35 := own_ext ho35 hE58
    replace ho43 := own_ext ho43 hE58
    replace ho44_0 := own_ext ho44_0 hE58
    replace hrc46 := hrc46.ext hE58
    replace ho47 := own_ext ho47 hE58
    replace hos47 := hos47.ext hE58
    replace hrc49 := hrc49.ext hE58
    replace ho50 := own_ext ho50 hE58
    replace hos50 := hos50.ext hE58
    replace hrc52 := hrc52.ext hE58
    replace ho53 := own_ext ho53 hE58
    replace hrc57 := hrc57.ext hE58
    replace hsz := Nat.le_trans hsz hE58.size
    replace ho58 : w58.ownsRow w57.heap.size 3 1 (.slice (some ⟨b58, 0, none⟩) 6 6) 6 ((List.replicate 6 0).map vint) := ho58
    refine m_o3 rfl rfl (o_call Try.call21 rfl (send_ret _ _ three _ _ (List.replicate 6 0) _ hrc57 (by decide) (Row.of_owns ho58) (by decide) three_le) rfl ?_)
    rintro _ w59 ⟨rfl, hE59⟩
    refine ⟨hE59, ?_⟩
    replace hB := below_ext hB hE59 hsz
    replace hrc2 := hrc2.ext hE59
    replace ho3 := own_ext ho3 hE59
    replace hos3 := hos3.ext hE59
    replace ho5 := own_ext ho5 hE59
    replace ho6 := own_ext ho6 hE59
    replace ho7 := own_ext ho7 hE59
    replace hos8 := hos8.ext hE59
    replace ho8 := own_ext ho8 hE59
    replace ho11 := own_ext ho11 hE59
    replace hos12 := hos12.ext hE59
    replace ho12 := own_ext ho12 hE59
    replace ho16 := own_ext ho16 hE59
    replace hos17 := hos17.ext hE59
    replace ho17 := own_ext ho17 hE59
    replace ho26 := own_ext ho26 hE59
    replace ho29 := own_ext ho29 hE59
    replace ho32 := own_ext ho32 hE59
    replace ho35 := own_ext ho35 hE59
    replace ho43 := own_ext ho43 hE59
    replace ho44_0 := own_ext ho44_0 hE59
    replace hrc46 := hrc46.ext hE59
    replace ho47 := own_ext ho47 hE59
    replace hos47 := hos47.ext hE59
    replace hrc49 := hrc49.ext hE59
    replace ho50 := own_ext ho50 hE59
    replace hos50 := hos50.ext hE59
    replace hrc52 := hrc52.ext hE59
    replace ho53 := own_ext ho53 hE59
    replace hrc57 := hrc57.ext hE59
    replace ho58 := own_ext ho58 hE59
    replace hsz := Nat.le_trans hsz hE59.size
    refine m_q3 rfl rfl (fun w' hC' => q_move (v := .tuple _) rfl rfl) ?_
    refine m_q3 rfl rfl (fun w' hC' => q_extract (vs := [_, _]) (v := .string _) rfl rfl rfl) ?_
    refine m_q3 rfl rfl (fun w' hC' => q_extract (vs := [_, _]) (v := .int _ _) rfl rfl rfl) ?_
    refine m_q3 rfl rfl (fun w' hC' => q_assign (v := .string _) rfl rfl) ?_
    refine m_q3 rfl rfl (fun w' hC' => q_assign (v := .int _ _) rfl rfl) ?_
    refine m_nil3 ?_
    refine r_forget [(2, .int _ _), (5, .int _ _), (8, .int _ _), (10, .int _ _), (12, .int _ _), (14, .int _ _), (16, .int _ _)] ⟨rfl, rfl, rfl, rfl, rfl, rfl, rfl, trivial⟩ (fun e60 => ?_)
    refine r_seq ?_
    refine r_region' ?_
    refine l_o (o_buildSlice (el := 3) (cs := [vint 1]) Try.underlying25 el3 (by decide) (by kernel_rfl) rfl (by decide) rfl ?_)
    intro b61 w61 hzl61 hzr61 _ hb61 hE61 ho61
    have hszq61 : w.heap.size ≤ w59.heap.size := hsz
    have hbs_b61 : w.heap.size ≤ b61 := Nat.le_trans hsz hzl61
    replace hB := below_ext hB hE61 hsz
    replace hrc2 := hrc2.ext hE61
    replace ho3 := own_ext ho3 hE61
    replace hos3 := hos3.ext hE61
    replace ho5 := own_ext ho5 hE61
    replace ho6 := own_ext ho6 hE61
    replace ho7 := own_ext ho7 hE61
    replace hos8 := hos8.ext hE61
    replace ho8 := own_ext ho8 hE61
    replace ho11 := own_ext ho11 hE61
    replace hos12 := hos12.ext hE61
    replace ho12 := own_ext ho12 hE61
    replace ho16 := own_ext ho16 hE61
    replace hos17 := hos17.ext hE61
    replace ho17 := own_ext ho17 hE61
    replace ho26 := own_ext ho26 hE61
    replace ho29 := own_ext ho29 hE61
    replace ho32 := own_ext ho32 hE61
    replace ho35 := own_ext ho35 hE61
    replace ho43 := own_ext ho43 hE61
    replace ho44_0 := own_ext ho44_0 hE61
    replace hrc46 := hrc46.ext hE61
    replace ho47 := own_ext ho47 hE61
    replace hos47 := hos47.ext hE61
    replace hrc49 := hrc49.ext hE61
    replace ho50 := own_ext ho50 hE61
    replace hos50 := hos50.ext hE61
    replace hrc52 := hrc52.ext hE61
    replace ho53 := own_ext ho53 hE61
    replace hrc57 := hrc57.ext hE61
    replace ho58 := own_ext ho58 hE61
    replace hsz := Nat.le_trans hsz hE61.size
    refine l_o (o_buildSlice (el := 3) (cs := [vint 1]) Try.underlying25 el3 (by decide) (by kernel_rfl) rfl (by decide) rfl ?_)
    intro b62 w62 hzl62 hzr62 _ hb62 hE62 ho62
    have hszq62 : w.heap.size ≤ w61.heap.size := hsz
    have hbs_b62 : w.heap.size ≤ b62 := Nat.le_trans hsz hzl62
    replace hB := below_ext hB hE62 hsz
    replace hrc2 := hrc2.ext hE62
    replace ho3 := own_ext ho3 hE62
    replace hos3 := hos3.ext hE62
    replace ho5 := own_ext ho5 hE62
    replace ho6 := own_ext ho6 hE62
    replace ho7 := own_ext ho7 hE62
    replace hos8 := hos8.ext hE62
    replace ho8 := own_ext ho8 hE62
    replace ho11 := own_ext ho11 hE62
    replace hos12 := hos12.ext hE62
    replace ho12 := own_ext ho12 hE62
    replace ho16 := own_ext ho16 hE62
    replace hos17 := hos17.ext hE62
    replace ho17 := own_ext ho17 hE62
    replace ho26 := own_ext ho26 hE62
    replace ho29 := own_ext ho29 hE62
    replace ho32 := own_ext ho32 hE62
    replace ho35 := own_ext ho35 hE62
    replace ho43 := own_ext ho43 hE62
    replace ho44_0 := own_ext ho44_0 hE62
    replace hrc46 := hrc46.ext hE62
    replace ho47 := own_ext ho47 hE62
    replace hos47 := hos47.ext hE62
    replace hrc49 := hrc49.ext hE62
    replace ho50 := own_ext ho50 hE62
    replace hos50 := hos50.ext hE62
    replace hrc52 := hrc52.ext hE62
    replace ho53 := own_ext ho53 hE62
    replace hrc57 := hrc57.ext hE62
    replace ho58 := own_ext ho58 hE62
    replace ho61 := own_ext ho61 hE62
    replace hsz := Nat.le_trans hsz hE62.size
    refine l_o (o_buildSlice (el := 25) (cs := [.slice (some ⟨b61, 0, none⟩) 1 1, .slice (some ⟨b62, 0, none⟩) 1 1]) Try.underlying48 el25 (by decide) (by kernel_rfl) rfl (by decide) rfl ?_)
    intro b63 w63 hzl63 hzr63 _ hb63 hE63 ho63
    have hszq63 : w.heap.size ≤ w62.heap.size := hsz
    have hbs_b63 : w.heap.size ≤ b63 := Nat.le_trans hsz hzl63
    replace hB := below_ext hB hE63 hsz
    replace hrc2 := hrc2.ext hE63
    replace ho3 := own_ext ho3 hE63
    replace hos3 := hos3.ext hE63
    replace ho5 := own_ext ho5 hE63
    replace ho6 := own_ext ho6 hE63
    replace ho7 := own_ext ho7 hE63
    replace hos8 := hos8.ext hE63
    replace ho8 := own_ext ho8 hE63
    replace ho11 := own_ext ho11 hE63
    replace hos12 := hos12.ext hE63
    replace ho12 := own_ext ho12 hE63
    replace ho16 := own_ext ho16 hE63
    replace hos17 := hos17.ext hE63
    replace ho17 := own_ext ho17 hE63
    replace ho26 := own_ext ho26 hE63
    replace ho29 := own_ext ho29 hE63
    replace ho32 := own_ext ho32 hE63
    replace ho35 := own_ext ho35 hE63
    replace ho43 := own_ext ho43 hE63
    replace ho44_0 := own_ext ho44_0 hE63
    replace hrc46 := hrc46.ext hE63
    replace ho47 := own_ext ho47 hE63
    replace hos47 := hos47.ext hE63
    replace hrc49 := hrc49.ext hE63
    replace ho50 := own_ext ho50 hE63
    replace hos50 := hos50.ext hE63
    replace hrc52 := hrc52.ext hE63
    replace ho53 := own_ext ho53 hE63
    replace hrc57 := hrc57.ext hE63
    replace ho58 := own_ext ho58 hE63
    replace ho61 := own_ext ho61 hE63
    replace ho62 := own_ext ho62 hE63
    replace hsz := Nat.le_trans hsz hE63.size
    have hos63 : OwnsI w63 w.heap.size 3 [⟨some ⟨b61, 0, none⟩, 1, [1]⟩, ⟨some ⟨b62, 0, none⟩, 1, [1]⟩] := OwnsI.snoc (OwnsI.snoc (OwnsI.nil _ _ _) (own_mono ho61 (by omega))) (own_mono ho62 (by omega))
    refine l_o (o_call Try.call37 rfl (frepeat_ret _ _ [⟨some ⟨b61, 0, none⟩, 1, [1]⟩, ⟨some ⟨b62, 0, none⟩, 1, [1]⟩] _ (Row.of_owns ho63) hos63.rows (by simp) (by simp)) rfl ?_)
    rintro _ w64 ⟨rfl, hE64⟩
    replace hB := below_ext hB hE64 hsz
    replace hrc2 := hrc2.ext hE64
    replace ho3 := own_ext ho3 hE64
    replace hos3 := hos3.ext hE64
    replace ho5 := own_ext ho5 hE64
    replace ho6 := own_ext ho6 hE64
    replace ho7 := own_ext ho7 hE64
    replace hos8 := hos8.ext hE64
    replace ho8 := own_ext ho8 hE64
    replace ho11 := own_ext ho11 hE64
    replace hos12 := hos12.ext hE64
    replace ho12 := own_ext ho12 hE64
    replace ho16 := own_ext ho16 hE64
    replace hos17 := hos17.ext hE64
    replace ho17 := own_ext ho17 hE64
    replace ho26 := own_ext ho26 hE64
    replace ho29 := own_ext ho29 hE64
    replace ho32 := own_ext ho32 hE64
    replace ho35 := own_ext ho35 hE64
    replace ho43 := own_ext ho43 hE64
    replace ho44_0 := own_ext ho44_0 hE64
    replace hrc46 := hrc46.ext hE64
    replace ho47 := own_ext ho47 hE64
    replace hos47 := hos47.ext hE64
    replace hrc49 := hrc49.ext hE64
    replace ho50 := own_ext ho50 hE64
    replace hos50 := hos50.ext hE64
    replace hrc52 := hrc52.ext hE64
    replace ho53 := own_ext ho53 hE64
    replace hrc57 := hrc57.ext hE64
    replace ho58 := own_ext ho58 hE64
    replace ho61 := own_ext ho61 hE64
    replace ho62 := own_ext ho62 hE64
    replace hos63 := hos63.ext hE64
    replace ho63 := own_ext ho63 hE64
    replace hsz := Nat.le_trans hsz hE64.size
    refine l_q (q_move (v := .tuple _) rfl rfl) ?_
    refine l_q (q_extract (vs := [_, _, _]) (v := .int _ _) rfl rfl rfl) ?_
    refine l_q (q_extract (vs := [_, _, _]) (v := .int _ _) rfl rfl rfl) ?_
    refine l_q (q_extract (vs := [_, _, _]) (v := .int _ _) rfl rfl rfl) ?_
    refine l_q (q_assign (v := .int _ _) rfl rfl) ?_
    refine l_q (q_assign (v := .int _ _) rfl rfl) ?_
    refine l_q (q_assign (v := .int _ _) rfl rfl) ?_
    refine l_nil ?_
    refine r_forget [(2, .int _ _), (5, .int _ _), (8, .int _ _), (10, .int _ _), (12, .int _ _), (14, .int _ _), (16, .int _ _), (19, .int _ _)] ⟨rfl, rfl, rfl, rfl, rfl, rfl, rfl, rfl, trivial⟩ (fun e65 => ?_)
    refine r_seq ?_
    refine r_region' ?_
    refine l_o (o_call Try.call37 rfl (frepeat_ret none 0 [] _ (Row.nil _ _ _ _) (RowsI.nil _) (by simp) (by simp)) rfl ?_)
    rintro _ w66 ⟨rfl, hE66⟩
    replace hB := below_ext hB hE66 hsz
    replace hrc2 := hrc2.ext hE66
    replace ho3 := own_ext ho3 hE66
    replace hos3 := hos3.ext hE66
    replace ho5 := own_ext ho5 hE66
    replace ho6 := own_ext ho6 hE66
    replace ho7 := own_ext ho7 hE66
    replace hos8 := hos8.ext hE66
    replace ho8 := own_ext ho8 hE66
    replace ho11 := own_ext ho11 hE66
    replace hos12 := hos12.ext hE66
    replace ho12 := own_ext ho12 hE66
    replace ho16 := own_ext ho16 hE66
    replace hos17 := hos17.ext hE66
    replace ho17 := own_ext ho17 hE66
    replace ho26 := own_ext ho26 hE66
    replace ho29 := own_ext ho29 hE66
    replace ho32 := own_ext ho32 hE66
    replace ho35 := own_ext ho35 hE66
    replace ho43 := own_ext ho43 hE66
    replace ho44_0 := own_ext ho44_0 hE66
    replace hrc46 := hrc46.ext hE66
    replace ho47 := own_ext ho47 hE66
    replace hos47 := hos47.ext hE66
    replace hrc49 := hrc49.ext hE66
    replace ho50 := own_ext ho50 hE66
    replace hos50 := hos50.ext hE66
    replace hrc52 := hrc52.ext hE66
    replace ho53 := own_ext ho53 hE66
    replace hrc57 := hrc57.ext hE66
    replace ho58 := own_ext ho58 hE66
    replace ho61 := own_ext ho61 hE66
    replace ho62 := own_ext ho62 hE66
    replace hos63 := hos63.ext hE66
    replace ho63 := own_ext ho63 hE66
    replace hsz := Nat.le_trans hsz hE66.size
    refine l_q (q_move (v := .tuple _) rfl rfl) ?_
    refine l_q (q_extract (vs := [_, _, _]) (v := .int _ _) rfl rfl rfl) ?_
    refine l_q (q_extract (vs := [_, _, _]) (v := .int _ _) rfl rfl rfl) ?_
    refine l_q (q_extract (vs := [_, _, _]) (v := .int _ _) rfl rfl rfl) ?_
    refine l_q (q_assign (v := .int _ _) rfl rfl) ?_
    refine l_q (q_assign (v := .int _ _) rfl rfl) ?_
    refine l_q (q_assign (v := .int _ _) rfl rfl) ?_
    refine l_nil ?_
    refine r_forget [(2, .int _ _), (5, .int _ _), (8, .int _ _), (10, .int _ _), (12, .int _ _), (14, .int _ _), (16, .int _ _), (19, .int _ _), (22, .int _ _)] ⟨rfl, rfl, rfl, rfl, rfl, rfl, rfl, rfl, rfl, trivial⟩ (fun e67 => ?_)
    refine r_seq ?_
    refine r_region' ?_
    refine l_o (o_buildSlice (el := 3) (cs := [vint 6]) Try.underlying25 el3 (by decide) (by kernel_rfl) rfl (by decide) rfl ?_)
    intro b68 w68 hzl68 hzr68 _ hb68 hE68 ho68
    have hszq68 : w.heap.size ≤ w66.heap.size := hsz
    have hbs_b68 : w.heap.size ≤ b68 := Nat.le_trans hsz hzl68
    replace hB := below_ext hB hE68 hsz
    replace hrc2 := hrc2.ext hE68
    replace ho3 := own_ext ho3 hE68
    replace hos3 := hos3.ext hE68
    replace ho5 := own_ext ho5 hE68
    replace ho6 := own_ext ho6 hE68
    replace ho7 := own_ext ho7 hE68
    replace hos8 := hos8.ext hE68
    replace ho8 := own_ext ho8 hE68
    replace ho11 := own_ext ho11 hE68
    replace hos12 := hos12.ext hE68
    replace ho12 := own_ext ho12 hE68
    replace ho16 := own_ext ho16 hE68
    replace hos17 := hos17.ext hE68
    replace ho17 := own_ext ho17 hE68
    replace ho26 := own_ext ho26 hE68
    replace ho29 := own_ext ho29 hE68
    replace ho32 := own_ext ho32 hE68
    replace ho35 := own_ext ho35 hE68
    replace ho43 := own_ext ho43 hE68
    replace ho44_0 := own_ext ho44_0 hE68
    replace hrc46 := hrc46.ext hE68
    replace ho47 := own_ext ho47 hE68
    replace hos47 := hos47.ext hE68
    replace hrc49 := hrc49.ext hE68
    replace ho50 := own_ext ho50 hE68
    replace hos50 := hos50.ext hE68
    replace hrc52 := hrc52.ext hE68
    replace ho53 := own_ext ho53 hE68
    replace hrc57 := hrc57.ext hE68
    replace ho58 := own_ext ho58 hE68
    replace ho61 := own_ext ho61 hE68
    replace ho62 := own_ext ho62 hE68
    replace hos63 := hos63.ext hE68
    replace ho63 := own_ext ho63 hE68
    replace hsz := Nat.le_trans hsz hE68.size
    refine l_o (o_buildSlice (el := 25) (cs := [.slice (some ⟨b68, 0, none⟩) 1 1]) Try.underlying48 el25 (by decide) (by kernel_rfl) rfl (by decide) rfl ?_)
    intro b69 w69 hzl69 hzr69 _ hb69 hE69 ho69
    have hszq69 : w.heap.size ≤ w68.heap.size := hsz
    have hbs_b69 : w.heap.size ≤ b69 := Nat.le_trans hsz hzl69
    replace hB := below_ext hB hE69 hsz
    replace hrc2 := hrc2.ext hE69
    replace ho3 := own_ext ho3 hE69
    replace hos3 := hos3.ext hE69
    replace ho5 := own_ext ho5 hE69
    replace ho6 := own_ext ho6 hE69
    replace ho7 := own_ext ho7 hE69
    replace hos8 := hos8.ext hE69
    replace ho8 := own_ext ho8 hE69
    replace ho11 := own_ext ho11 hE69
    replace hos12 := hos12.ext hE69
    replace ho12 := own_ext ho12 hE69
    replace ho16 := own_ext ho16 hE69
    replace hos17 := hos17.ext hE69
    replace ho17 := own_ext ho17 hE69
    replace ho26 := own_ext ho26 hE69
    replace ho29 := own_ext ho29 hE69
    replace ho32 := own_ext ho32 hE69
    replace ho35 := own_ext ho35 hE69
    replace ho43 := own_ext ho43 hE69
    replace ho44_0 := own_ext ho44_0 hE69
    replace hrc46 := hrc46.ext hE69
    replace ho47 := own_ext ho47 hE69
    replace hos47 := hos47.ext hE69
    replace hrc49 := hrc49.ext hE69
    replace ho50 := own_ext ho50 hE69
    replace hos50 := hos50.ext hE69
    replace hrc52 := hrc52.ext hE69
    replace ho53 := own_ext ho53 hE69
    replace hrc57 := hrc57.ext hE69
    replace ho58 := own_ext ho58 hE69
    replace ho61 := own_ext ho61 hE69
    replace ho62 := own_ext ho62 hE69
    replace hos63 := hos63.ext hE69
    replace ho63 := own_ext ho63 hE69
    replace ho68 := own_ext ho68 hE69
    replace hsz := Nat.le_trans hsz hE69.size
    have hos69 : OwnsI w69 w.heap.size 3 [⟨some ⟨b68, 0, none⟩, 1, [6]⟩] := OwnsI.snoc (OwnsI.nil _ _ _) (own_mono ho68 (by omega))
    refine l_o (o_call Try.call37 rfl (frepeat_ret _ _ [⟨some ⟨b68, 0, none⟩, 1, [6]⟩] _ (Row.of_owns ho69) hos69.rows (by simp) (by simp)) rfl ?_)
    rintro _ w70 ⟨rfl, hE70⟩
    replace hB := below_ext hB hE70 hsz
    replace hrc2 := hrc2.ext hE70
    replace ho3 := own_ext ho3 hE70
    replace hos3 := hos3.ext hE70
    replace ho5 := own_ext ho5 hE70
    replace ho6 := own_ext ho6 hE70
    replace ho7 := own_ext ho7 hE70
    replace hos8 := hos8.ext hE70
    replace ho8 := own_ext ho8 hE70
    replace ho11 := own_ext ho11 hE70
    replace hos12 := hos12.ext hE70
    replace ho12 := own_ext ho12 hE70
    replace ho16 := own_ext ho16 hE70
    replace hos17 := hos17.ext hE70
    replace ho17 := own_ext ho17 hE70
    replace ho26 := own_ext ho26 hE70
    replace ho29 := own_ext ho29 hE70
    replace ho32 := own_ext ho32 hE70
    replace ho35 := own_ext ho35 hE70
    replace ho43 := own_ext ho43 hE70
    replace ho44_0 := own_ext ho44_0 hE70
    replace hrc46 := hrc46.ext hE70
    replace ho47 := own_ext ho47 hE70
    replace hos47 := hos47.ext hE70
    replace hrc49 := hrc49.ext hE70
    replace ho50 := own_ext ho50 hE70
    replace hos50 := hos50.ext hE70
    replace hrc52 := hrc52.ext hE70
    replace ho53 := own_ext ho53 hE70
    replace hrc57 := hrc57.ext hE70
    replace ho58 := own_ext ho58 hE70
    replace ho61 := own_ext ho61 hE70
    replace ho62 := own_ext ho62 hE70
    replace hos63 := hos63.ext hE70
    replace ho63 := own_ext ho63 hE70
    replace ho68 := own_ext ho68 hE70
    replace hos69 := hos69.ext hE70
    replace ho69 := own_ext ho69 hE70
    replace hsz := Nat.le_trans hsz hE70.size
    refine l_q (q_move (v := .tuple _) rfl rfl) ?_
    refine l_q (q_extract (vs := [_, _, _]) (v := .int _ _) rfl rfl rfl) ?_
    refine l_q (q_extract (vs := [_, _, _]) (v := .int _ _) rfl rfl rfl) ?_
    refine l_q (q_extract (vs := [_, _, _]) (v := .int _ _) rfl rfl rfl) ?_
    refine l_q (q_assign (v := .int _ _) rfl rfl) ?_
    refine l_q (q_assign (v := .int _ _) rfl rfl) ?_
    refine l_q (q_assign (v := .int _ _) rfl rfl) ?_
    refine l_nil ?_
    refine r_forget [(2, .int _ _), (5, .int _ _), (8, .int _ _), (10, .int _ _), (12, .int _ _), (14, .int _ _), (16, .int _ _), (19, .int _ _), (22, .int _ _), (25, .int _ _)] ⟨rfl, rfl, rfl, rfl, rfl, rfl, rfl, rfl, rfl, rfl, trivial⟩ (fun e71 => ?_)
    refine r_seq ?_
    refine r_region' ?_
    refine l_q (q_move (v := .int _ _) rfl rfl) ?_
    refine l_q (q_eql rfl rfl rfl) ?_
    refine l_q (q_move (v := .bool _) rfl rfl) ?_
    have hk72 : (decide (((errs [46] [45]).2) = 11)) = true := by decide +kernel
    refine l_part 155 rfl (fun _ => ?_) (fun hx => absurd (hk72.symm.trans hx) (by decide))
    refine l_q (q_move (v := .int _ _) rfl rfl) ?_
    refine l_q (q_eql rfl rfl rfl) ?_
    refine l_q (q_pick_t (v := .bool _) rfl rfl rfl) ?_
    refine l_q (q_move (v := .bool _) rfl rfl) ?_
    have hk73 : (decide (((errs [46] [120]).2) = 4)) = true := by decide +kernel
    refine l_part 159 rfl (fun _ => ?_) (fun hx => absurd (hk73.symm.trans hx) (by decide))
    refine l_q (q_move (v := .int _ _) rfl rfl) ?_
    refine l_q (q_eql rfl rfl rfl) ?_
    refine l_q (q_pick_t (v := .bool _) rfl rfl rfl) ?_
    refine l_q (q_move (v := .bool _) rfl rfl) ?_
    have hk74 : (decide (((errs (List.replicate 41 (0 : UInt8)) []).2) = 3)) = true := by decide +kernel
    refine l_part 163 rfl (fun _ => ?_) (fun hx => absurd (hk74.symm.trans hx) (by decide))
    refine l_q (q_move (v := .int _ _) rfl rfl) ?_
    refine l_q (q_eql rfl rfl rfl) ?_
    refine l_q (q_pick_t (v := .bool _) rfl rfl rfl) ?_
    refine l_q (q_move (v := .bool _) rfl rfl) ?_
    have hk75 : (decide ((txErr three [46, 46] 4 2) = 2)) = true := by decide +kernel
    refine l_part 167 rfl (fun _ => ?_) (fun hx => absurd (hk75.symm.trans hx) (by decide))
    refine l_q (q_move (v := .int _ _) rfl rfl) ?_
    refine l_q (q_eql rfl rfl rfl) ?_
    refine l_q (q_pick_t (v := .bool _) rfl rfl rfl) ?_
    refine l_q (q_move (v := .bool _) rfl rfl) ?_
    have hk76 : (decide ((txErr three [46, 46] 1 6) = 2)) = true := by decide +kernel
    refine l_part 171 rfl (fun _ => ?_) (fun hx => absurd (hk76.symm.trans hx) (by decide))
    refine l_q (q_move (v := .int _ _) rfl rfl) ?_
    refine l_q (q_eql rfl rfl rfl) ?_
    refine l_q (q_pick_t (v := .bool _) rfl rfl rfl) ?_
    refine l_q (q_move (v := .bool _) rfl rfl) ?_
    have hk77 : (decide (((send three [3]).2) = 2)) = true := by decide +kernel
    refine l_part 175 rfl (fun _ => ?_) (fun hx => absurd (hk77.symm.trans hx) (by decide))
    refine l_q (q_move (v := .int _ _) rfl rfl) ?_
    refine l_q (q_eql rfl rfl rfl) ?_
    refine l_q (q_pick_t (v := .bool _) rfl rfl rfl) ?_
    refine l_q (q_move (v := .bool _) rfl rfl) ?_
    have hk78 : (decide (((send three (List.replicate 6 0)).2) = 3)) = true := by decide +kernel
    refine l_part 179 rfl (fun _ => ?_) (fun hx => absurd (hk78.symm.trans hx) (by decide))
    refine l_q (q_move (v := .int _ _) rfl rfl) ?_
    refine l_q (q_eql rfl rfl rfl) ?_
    refine l_q (q_pick_t (v := .bool _) rfl rfl rfl) ?_
    refine l_q (q_move (v := .bool _) rfl rfl) ?_
    have hk79 : (decide (((repAll [[1], [1]]).2.2) = 6)) = true := by decide +kernel
    refine l_part 183 rfl (fun _ => ?_) (fun hx => absurd (hk79.symm.trans hx) (by decide))
    refine l_q (q_move (v := .int _ _) rfl rfl) ?_
    refine l_q (q_eql rfl rfl rfl) ?_
    refine l_q (q_pick_t (v := .bool _) rfl rfl rfl) ?_
    refine l_q (q_move (v := .bool _) rfl rfl) ?_
    have hk80 : (decide (((repAll []).2.2) = 2)) = true := by decide +kernel
    refine l_part 187 rfl (fun _ => ?_) (fun hx => absurd (hk80.symm.trans hx) (by decide))
    refine l_q (q_move (v := .int _ _) rfl rfl) ?_
    refine l_q (q_eql rfl rfl rfl) ?_
    refine l_q (q_pick_t (v := .bool _) rfl rfl rfl) ?_
    refine l_q (q_move (v := .bool _) rfl rfl) ?_
    have hk81 : (decide (((repAll [[6]]).2.2) = 2)) = true := by decide +kernel
    refine l_part 191 rfl (fun _ => ?_) (fun hx => absurd (hk81.symm.trans hx) (by decide))
    refine l_o (o_buildSlice (el := 9) (cs := [vstr [46], vstr [46]]) Try.underlying22 el9 (by decide) (by kernel_rfl) rfl (by decide) rfl ?_)
    intro b82 w82 hzl82 hzr82 _ hb82 hE82 ho82
    have hszq82 : w.heap.size ≤ w70.heap.size := hsz
    have hbs_b82 : w.heap.size ≤ b82 := Nat.le_trans hsz hzl82
    replace hB := below_ext hB hE82 hsz
    replace hrc2 := hrc2.ext hE82
    replace ho3 := own_ext ho3 hE82
    replace hos3 := hos3.ext hE82
    replace ho5 := own_ext ho5 hE82
    replace ho6 := own_ext ho6 hE82
    replace ho7 := own_ext ho7 hE82
    replace hos8 := hos8.ext hE82
    replace ho8 := own_ext ho8 hE82
    replace ho11 := own_ext ho11 hE82
    replace hos12 := hos12.ext hE82
    replace ho12 := own_ext ho12 hE82
    replace ho16 := own_ext ho16 hE82
    replace hos17 := hos17.ext hE82
    replace ho17 := own_ext ho17 hE82
    replace ho26 := own_ext ho26 hE82
    replace ho29 := own_ext ho29 hE82
    replace ho32 := own_ext ho32 hE82
    replace ho35 := own_ext ho35 hE82
    replace ho43 := own_ext ho43 hE82
    replace ho44_0 := own_ext ho44_0 hE82
    replace hrc46 := hrc46.ext hE82
    replace ho47 := own_ext ho47 hE82
    replace hos47 := hos47.ext hE82
    replace hrc49 := hrc49.ext hE82
    replace ho50 := own_ext ho50 hE82
    replace hos50 := hos50.ext hE82
    replace hrc52 := hrc52.ext hE82
    replace ho53 := own_ext ho53 hE82
    replace hrc57 := hrc57.ext hE82
    replace ho58 := own_ext ho58 hE82
    replace ho61 := own_ext ho61 hE82
    replace ho62 := own_ext ho62 hE82
    replace hos63 := hos63.ext hE82
    replace ho63 := own_ext ho63 hE82
    replace ho68 := own_ext ho68 hE82
    replace hos69 := hos69.ext hE82
    replace ho69 := own_ext ho69 hE82
    replace hsz := Nat.le_trans hsz hE82.size
    refine l_q (q_build (v := .agg ⟨[.slice (some ⟨b82, 0, none⟩) 2 2]⟩) (fun w => by kernel_rfl) rfl) ?_
    refine l_o (o_call Try.call19 rfl (checkCode_ret _ _ [[46], [46]] _ (Row.of_owns ho82) (by decide) (by decide)) rfl ?_)
    rintro _ w83 ⟨rfl, hE83⟩
    replace hB := below_ext hB hE83 hsz
    replace hrc2 := hrc2.ext hE83
    replace ho3 := own_ext ho3 hE83
    replace hos3 := hos3.ext hE83
    replace ho5 := own_ext ho5 hE83
    replace ho6 := own_ext ho6 hE83
    replace ho7 := own_ext ho7 hE83
    replace hos8 := hos8.ext hE83
    replace ho8 := own_ext ho8 hE83
    replace ho11 := own_ext ho11 hE83
    replace hos12 := hos12.ext hE83
    replace ho12 := own_ext ho12 hE83
    replace ho16 := own_ext ho16 hE83
    replace hos17 := hos17.ext hE83
    replace ho17 := own_ext ho17 hE83
    replace ho26 := own_ext ho26 hE83
    replace ho29 := own_ext ho29 hE83
    replace ho32 := own_ext ho32 hE83
    replace ho35 := own_ext ho35 hE83
    replace ho43 := own_ext ho43 hE83
    replace ho44_0 := own_ext ho44_0 hE83
    replace hrc46 := hrc46.ext hE83
    replace ho47 := own_ext ho47 hE83
    replace hos47 := hos47.ext hE83
    replace hrc49 := hrc49.ext hE83
    replace ho50 := own_ext ho50 hE83
    replace hos50 := hos50.ext hE83
    replace hrc52 := hrc52.ext hE83
    replace ho53 := own_ext ho53 hE83
    replace hrc57 := hrc57.ext hE83
    replace ho58 := own_ext ho58 hE83
    replace ho61 := own_ext ho61 hE83
    replace ho62 := own_ext ho62 hE83
    replace hos63 := hos63.ext hE83
    replace ho63 := own_ext ho63 hE83
    replace ho68 := own_ext ho68 hE83
    replace hos69 := hos69.ext hE83
    replace ho69 := own_ext ho69 hE83
    replace ho82 := own_ext ho82 hE83
    replace hsz := Nat.le_trans hsz hE83.size
    refine l_q (q_eql rfl rfl rfl) ?_
    refine l_q (q_pick_t (v := .bool _) rfl rfl rfl) ?_
    refine l_q (q_move (v := .bool _) rfl rfl) ?_
    have hk84 : (decide ((fault [[46], [46]]) = 1)) = true := by decide +kernel
    refine l_part 197 rfl (fun _ => ?_) (fun hx => absurd (hk84.symm.trans hx) (by decide))
    refine l_o (o_buildSlice (el := 9) (cs := [vstr [46, 46, 46, 46, 46]]) Try.underlying22 el9 (by decide) (by kernel_rfl) rfl (by decide) rfl ?_)
    intro b85 w85 hzl85 hzr85 _ hb85 hE85 ho85
    have hszq85 : w.heap.size ≤ w83.heap.size := hsz
    have hbs_b85 : w.heap.size ≤ b85 := Nat.le_trans hsz hzl85
    replace hB := below_ext hB hE85 hsz
    replace hrc2 := hrc2.ext hE85
    replace ho3 := own_ext ho3 hE85
    replace hos3 := hos3.ext hE85
    replace ho5 := own_ext ho5 hE85
    replace ho6 := own_ext ho6 hE85
    replace ho7 := own_ext ho7 hE85
    replace hos8 := hos8.ext hE85
    replace ho8 := own_ext ho8 hE85
    replace ho11 := own_ext ho11 hE85
    replace hos12 := hos12.ext hE85
    replace ho12 := own_ext ho12 hE85
    replace ho16 := own_ext ho16 hE85
    replace hos17 := hos17.ext hE85
    replace ho17 := own_ext ho17 hE85
    replace ho26 := own_ext ho26 hE85
    replace ho29 := own_ext ho29 hE85
    replace ho32 := own_ext ho32 hE85
    replace ho35 := own_ext ho35 hE85
    replace ho43 := own_ext ho43 hE85
    replace ho44_0 := own_ext ho44_0 hE85
    replace hrc46 := hrc46.ext hE85
    replace ho47 := own_ext ho47 hE85
    replace hos47 := hos47.ext hE85
    replace hrc49 := hrc49.ext hE85
    replace ho50 := own_ext ho50 hE85
    replace hos50 := hos50.ext hE85
    replace hrc52 := hrc52.ext hE85
    replace ho53 := own_ext ho53 hE85
    replace hrc57 := hrc57.ext hE85
    replace ho58 := own_ext ho58 hE85
    replace ho61 := own_ext ho61 hE85
    replace ho62 := own_ext ho62 hE85
    replace hos63 := hos63.ext hE85
    replace ho63 := own_ext ho63 hE85
    replace ho68 := own_ext ho68 hE85
    replace hos69 := hos69.ext hE85
    replace ho69 := own_ext ho69 hE85
    replace ho82 := own_ext ho82 hE85
    replace hsz := Nat.le_trans hsz hE85.size
    refine l_q (q_build (v := .agg ⟨[.slice (some ⟨b85, 0, none⟩) 1 1]⟩) (fun w => by kernel_rfl) rfl) ?_
    refine l_o (o_call Try.call19 rfl (checkCode_ret _ _ [[46, 46, 46, 46, 46]] _ (Row.of_owns ho85) (by decide) (by decide)) rfl ?_)
    rintro _ w86 ⟨rfl, hE86⟩
    replace hB := below_ext hB hE86 hsz
    replace hrc2 := hrc2.ext hE86
    replace ho3 := own_ext ho3 hE86
    replace hos3 := hos3.ext hE86
    replace ho5 := own_ext ho5 hE86
    replace ho6 := own_ext ho6 hE86
    replace ho7 := own_ext ho7 hE86
    replace hos8 := hos8.ext hE86
    replace ho8 := own_ext ho8 hE86
    replace ho11 := own_ext ho11 hE86
    replace hos12 := hos12.ext hE86
    replace ho12 := own_ext ho12 hE86
    replace ho16 := own_ext ho16 hE86
    replace hos17 := hos17.ext hE86
    replace ho17 := own_ext ho17 hE86
    replace ho26 := own_ext ho26 hE86
    replace ho29 := own_ext ho29 hE86
    replace ho32 := own_ext ho32 hE86
    replace ho35 := own_ext ho35 hE86
    replace ho43 := own_ext ho43 hE86
    replace ho44_0 := own_ext ho44_0 hE86
    replace hrc46 := hrc46.ext hE86
    replace ho47 := own_ext ho47 hE86
    replace hos47 := hos47.ext hE86
    replace hrc49 := hrc49.ext hE86
    replace ho50 := own_ext ho50 hE86
    replace hos50 := hos50.ext hE86
    replace hrc52 := hrc52.ext hE86
    replace ho53 := own_ext ho53 hE86
    replace hrc57 := hrc57.ext hE86
    replace ho58 := own_ext ho58 hE86
    replace ho61 := own_ext ho61 hE86
    replace ho62 := own_ext ho62 hE86
    replace hos63 := hos63.ext hE86
    replace ho63 := own_ext ho63 hE86
    replace ho68 := own_ext ho68 hE86
    replace hos69 := hos69.ext hE86
    replace ho69 := own_ext ho69 hE86
    replace ho82 := own_ext ho82 hE86
    replace ho85 := own_ext ho85 hE86
    replace hsz := Nat.le_trans hsz hE86.size
    refine l_q (q_eql rfl rfl rfl) ?_
    refine l_q (q_pick_t (v := .bool _) rfl rfl rfl) ?_
    refine l_q (q_move (v := .bool _) rfl rfl) ?_
    have hk87 : (decide ((fault [[46, 46, 46, 46, 46]]) = 1)) = true := by decide +kernel
    refine l_part 203 rfl (fun _ => ?_) (fun hx => absurd (hk87.symm.trans hx) (by decide))
    refine l_o (o_buildSlice (el := 9) (cs := [vstr [46, 32, 46]]) Try.underlying22 el9 (by decide) (by kernel_rfl) rfl (by decide) rfl ?_)
    intro b88 w88 hzl88 hzr88 _ hb88 hE88 ho88
    have hszq88 : w.heap.size ≤ w86.heap.size := hsz
    have hbs_b88 : w.heap.size ≤ b88 := Nat.le_trans hsz hzl88
    replace hB := below_ext hB hE88 hsz
    replace hrc2 := hrc2.ext hE88
    replace ho3 := own_ext ho3 hE88
    replace hos3 := hos3.ext hE88
    replace ho5 := own_ext ho5 hE88
    replace ho6 := own_ext ho6 hE88
    replace ho7 := own_ext ho7 hE88
    replace hos8 := hos8.ext hE88
    replace ho8 := own_ext ho8 hE88
    replace ho11 := own_ext ho11 hE88
    replace hos12 := hos12.ext hE88
    replace ho12 := own_ext ho12 hE88
    replace ho16 := own_ext ho16 hE88
    replace hos17 := hos17.ext hE88
    replace ho17 := own_ext ho17 hE88
    replace ho26 := own_ext ho26 hE88
    replace ho29 := own_ext ho29 hE88
    replace ho32 := own_ext ho32 hE88
    replace ho35 := own_ext ho35 hE88
    replace ho43 := own_ext ho43 hE88
    replace ho44_0 := own_ext ho44_0 hE88
    replace hrc46 := hrc46.ext hE88
    replace ho47 := own_ext ho47 hE88
    replace hos47 := hos47.ext hE88
    replace hrc49 := hrc49.ext hE88
    replace ho50 := own_ext ho50 hE88
    replace hos50 := hos50.ext hE88
    replace hrc52 := hrc52.ext hE88
    replace ho53 := own_ext ho53 hE88
    replace hrc57 := hrc57.ext hE88
    replace ho58 := own_ext ho58 hE88
    replace ho61 := own_ext ho61 hE88
    replace ho62 := own_ext ho62 hE88
    replace hos63 := hos63.ext hE88
    replace ho63 := own_ext ho63 hE88
    replace ho68 := own_ext ho68 hE88
    replace hos69 := hos69.ext hE88
    replace ho69 := own_ext ho69 hE88
    replace ho82 := own_ext ho82 hE88
    replace ho85 := own_ext ho85 hE88
    replace hsz := Nat.le_trans hsz hE88.size
    refine l_q (q_build (v := .agg ⟨[.slice (some ⟨b88, 0, none⟩) 1 1]⟩) (fun w => by kernel_rfl) rfl) ?_
    refine l_o (o_call Try.call19 rfl (checkCode_ret _ _ [[46, 32, 46]] _ (Row.of_owns ho88) (by decide) (by decide)) rfl ?_)
    rintro _ w89 ⟨rfl, hE89⟩
    replace hB := below_ext hB hE89 hsz
    replace hrc2 := hrc2.ext hE89
    replace ho3 := own_ext ho3 hE89
    replace hos3 := hos3.ext hE89
    replace ho5 := own_ext ho5 hE89
    replace ho6 := own_ext ho6 hE89
    replace ho7 := own_ext ho7 hE89
    replace hos8 := hos8.ext hE89
    replace ho8 := own_ext ho8 hE89
    replace ho11 := own_ext ho11 hE89
    replace hos12 := hos12.ext hE89
    replace ho12 := own_ext ho12 hE89
    replace ho16 := own_ext ho16 hE89
    replace hos17 := hos17.ext hE89
    replace ho17 := own_ext ho17 hE89
    replace ho26 := own_ext ho26 hE89
    replace ho29 := own_ext ho29 hE89
    replace ho32 := own_ext ho32 hE89
    replace ho35 := own_ext ho35 hE89
    replace ho43 := own_ext ho43 hE89
    replace ho44_0 := own_ext ho44_0 hE89
    replace hrc46 := hrc46.ext hE89
    replace ho47 := own_ext ho47 hE89
    replace hos47 := hos47.ext hE89
    replace hrc49 := hrc49.ext hE89
    replace ho50 := own_ext ho50 hE89
    replace hos50 := hos50.ext hE89
    replace hrc52 := hrc52.ext hE89
    replace ho53 := own_ext ho53 hE89
    replace hrc57 := hrc57.ext hE89
    replace ho58 := own_ext ho58 hE89
    replace ho61 := own_ext ho61 hE89
    replace ho62 := own_ext ho62 hE89
    replace hos63 := hos63.ext hE89
    replace ho63 := own_ext ho63 hE89
    replace ho68 := own_ext ho68 hE89
    replace hos69 := hos69.ext hE89
    replace ho69 := own_ext ho69 hE89
    replace ho82 := own_ext ho82 hE89
    replace ho85 := own_ext ho85 hE89
    replace ho88 := own_ext ho88 hE89
    replace hsz := Nat.le_trans hsz hE89.size
    refine l_q (q_eql rfl rfl rfl) ?_
    refine l_q (q_pick_t (v := .bool _) rfl rfl rfl) ?_
    refine l_q (q_move (v := .bool _) rfl rfl) ?_
    have hk90 : (decide ((fault [[46, 32, 46]]) = 1)) = true := by decide +kernel
    refine l_part 209 rfl (fun _ => ?_) (fun hx => absurd (hk90.symm.trans hx) (by decide))
    refine l_o (o_makeSlice (n := 7) Try.underlying22 el9 (rfl) (rfl) (by omega) (by unfold maxLen; omega) rfl ?_)
    intro b91 w91 hzl91 hzr91 _ hb91 hE91 ho91
    rw [made_one _ _ rfl] at hb91 ho91
    have hbs_b91 : w.heap.size ≤ b91 := Nat.le_trans hsz hzl91
    replace hB := below_ext hB hE91 hsz
    replace hrc2 := hrc2.ext hE91
    replace ho3 := own_ext ho3 hE91
    replace hos3 := hos3.ext hE91
    replace ho5 := own_ext ho5 hE91
    replace ho6 := own_ext ho6 hE91
    replace ho7 := own_ext ho7 hE91
    replace hos8 := hos8.ext hE91
    replace ho8 := own_ext ho8 hE91
    replace ho11 := own_ext ho11 hE91
    replace hos12 := hos12.ext hE91
    replace ho12 := own_ext ho12 hE91
    replace ho16 := own_ext ho16 hE91
    replace hos17 := hos17.ext hE91
    replace ho17 := own_ext ho17 hE91
    replace ho26 := own_ext ho26 hE91
    replace ho29 := own_ext ho29 hE91
    replace ho32 := own_ext ho32 hE91
    replace ho35 := own_ext ho35 hE91
    replace ho43 := own_ext ho43 hE91
    replace ho44_0 := own_ext ho44_0 hE91
    replace hrc46 := hrc46.ext hE91
    replace ho47 := own_ext ho47 hE91
    replace hos47 := hos47.ext hE91
    replace hrc49 := hrc49.ext hE91
    replace ho50 := own_ext ho50 hE91
    replace hos50 := hos50.ext hE91
    replace hrc52 := hrc52.ext hE91
    replace ho53 := own_ext ho53 hE91
    replace hrc57 := hrc57.ext hE91
    replace ho58 := own_ext ho58 hE91
    replace ho61 := own_ext ho61 hE91
    replace ho62 := own_ext ho62 hE91
    replace hos63 := hos63.ext hE91
    replace ho63 := own_ext ho63 hE91
    replace ho68 := own_ext ho68 hE91
    replace hos69 := hos69.ext hE91
    replace ho69 := own_ext ho69 hE91
    replace ho82 := own_ext ho82 hE91
    replace ho85 := own_ext ho85 hE91
    replace ho88 := own_ext ho88 hE91
    replace hsz := Nat.le_trans hsz hE91.size
    replace ho91 : w91.ownsRow w89.heap.size 9 1 (.slice (some ⟨b91, 0, none⟩) 7 7) 7 (((List.replicate 7 [] : List Sg)).map vstr) := ho91
    refine l_q (q_build (v := .agg ⟨[.slice (some ⟨b91, 0, none⟩) 7 7]⟩) (fun w => by kernel_rfl) rfl) ?_
    refine l_o (o_call Try.call19 rfl (checkCode_ret _ _ (List.replicate 7 [] : List Sg) _ (Row.of_owns ho91) (by decide) (by decide)) rfl ?_)
    rintro _ w92 ⟨rfl, hE92⟩
    replace hB := below_ext hB hE92 hsz
    replace hrc2 := hrc2.ext hE92
    replace ho3 := own_ext ho3 hE92
    replace hos3 := hos3.ext hE92
    replace ho5 := own_ext ho5 hE92
    replace ho6 := own_ext ho6 hE92
    replace ho7 := own_ext ho7 hE92
    replace hos8 := hos8.ext hE92
    replace ho8 := own_ext ho8 hE92
    replace ho11 := own_ext ho11 hE92
    replace hos12 := hos12.ext hE92
    replace ho12 := own_ext ho12 hE92
    replace ho16 := own_ext ho16 hE92
    replace hos17 := hos17.ext hE92
    replace ho17 := own_ext ho17 hE92
    replace ho26 := own_ext ho26 hE92
    replace ho29 := own_ext ho29 hE92
    replace ho32 := own_ext ho32 hE92
    replace ho35 := own_ext ho35 hE92
    replace ho43 := own_ext ho43 hE92
    replace ho44_0 := own_ext ho44_0 hE92
    replace hrc46 := hrc46.ext hE92
    replace ho47 := own_ext ho47 hE92
    replace hos47 := hos47.ext hE92
    replace hrc49 := hrc49.ext hE92
    replace ho50 := own_ext ho50 hE92
    replace hos50 := hos50.ext hE92
    replace hrc52 := hrc52.ext hE92
    replace ho53 := own_ext ho53 hE92
    replace hrc57 := hrc57.ext hE92
    replace ho58 := own_ext ho58 hE92
    replace ho61 := own_ext ho61 hE92
    replace ho62 := own_ext ho62 hE92
    replace hos63 := hos63.ext hE92
    replace ho63 := own_ext ho63 hE92
    replace ho68 := own_ext ho68 hE92
    replace hos69 := hos69.ext hE92
    replace ho69 := own_ext ho69 hE92
    replace ho82 := own_ext ho82 hE92
    replace ho85 := own_ext ho85 hE92
    replace ho88 := own_ext ho88 hE92
    replace ho91 := own_ext ho91 hE92
    replace hsz := Nat.le_trans hsz hE92.size
    refine l_q (q_eql rfl rfl rfl) ?_
    refine l_q (q_pick_t (v := .bool _) rfl rfl rfl) ?_
    refine l_q (q_move (v := .bool _) rfl rfl) ?_
    have hk93 : (decide ((fault (List.replicate 7 [] : List Sg)) = 3)) = true := by decide +kernel
    refine l_part 215 rfl (fun _ => ?_) (fun hx => absurd (hk93.symm.trans hx) (by decide))
    refine l_q (q_build (v := .agg ⟨[.slice none 0 0]⟩) (fun w => by kernel_rfl) rfl) ?_
    refine l_o (o_call Try.call19 rfl (checkCode_ret none 0 [] _ (Row.nil _ _ _ _) (by decide) (by simp)) rfl ?_)
    rintro _ w94 ⟨rfl, hE94⟩
    replace hB := below_ext hB hE94 hsz
    replace hrc2 := hrc2.ext hE94
    replace ho3 := own_ext ho3 hE94
    replace hos3 := hos3.ext hE94
    replace ho5 := own_ext ho5 hE94
    replace ho6 := own_ext ho6 hE94
    replace ho7 := own_ext ho7 hE94
    replace hos8 := hos8.ext hE94
    replace ho8 := own_ext ho8 hE94
    replace ho11 := own_ext ho11 hE94
    replace hos12 := hos12.ext hE94
    replace ho12 := own_ext ho12 hE94
    replace ho16 := own_ext ho16 hE94
    replace hos17 := hos17.ext hE94
    replace ho17 := own_ext ho17 hE94
    replace ho26 := own_ext ho26 hE94
    replace ho29 := own_ext ho29 hE94
    replace ho32 := own_ext ho32 hE94
    replace ho35 := own_ext ho35 hE94
    replace ho43 := own_ext ho43 hE94
    replace ho44_0 := own_ext ho44_0 hE94
    replace hrc46 := hrc46.ext hE94
    replace ho47 := own_ext ho47 hE94
    replace hos47 := hos47.ext hE94
    replace hrc49 := hrc49.ext hE94
    replace ho50 := own_ext ho50 hE94
    replace hos50 := hos50.ext hE94
    replace hrc52 := hrc52.ext hE94
    replace ho53 := own_ext ho53 hE94
    replace hrc57 := hrc57.ext hE94
    replace ho58 := own_ext ho58 hE94
    replace ho61 := own_ext ho61 hE94
    replace ho62 := own_ext ho62 hE94
    replace hos63 := hos63.ext hE94
    replace ho63 := own_ext ho63 hE94
    replace ho68 := own_ext ho68 hE94
    replace hos69 := hos69.ext hE94
    replace ho69 := own_ext ho69 hE94
    replace ho82 := own_ext ho82 hE94
    replace ho85 := own_ext ho85 hE94
    replace ho88 := own_ext ho88 hE94
    replace ho91 := own_ext ho91 hE94
    replace hsz := Nat.le_trans hsz hE94.size
    refine l_q (q_eql rfl rfl rfl) ?_
    refine l_q (q_pick_t (v := .bool _) rfl rfl rfl) ?_
    refine l_q (q_move (v := .bool _) rfl rfl) ?_
    have hk95 : (decide ((fault []) = 1)) = true := by decide +kernel
    refine l_part 220 rfl (fun _ => ?_) (fun hx => absurd (hk95.symm.trans hx) (by decide))
    refine l_o (o_call Try.call18 rfl (awake_ret _) rfl ?_)
    rintro _ w96 ⟨rfl, hE96⟩
    replace hB := below_ext hB hE96 hsz
    replace hrc2 := hrc2.ext hE96
    replace ho3 := own_ext ho3 hE96
    replace hos3 := hos3.ext hE96
    replace ho5 := own_ext ho5 hE96
    replace ho6 := own_ext ho6 hE96
    replace ho7 := own_ext ho7 hE96
    replace hos8 := hos8.ext hE96
    replace ho8 := own_ext ho8 hE96
    replace ho11 := own_ext ho11 hE96
    replace hos12 := hos12.ext hE96
    replace ho12 := own_ext ho12 hE96
    replace ho16 := own_ext ho16 hE96
    replace hos17 := hos17.ext hE96
    replace ho17 := own_ext ho17 hE96
    replace ho26 := own_ext ho26 hE96
    replace ho29 := own_ext ho29 hE96
    replace ho32 := own_ext ho32 hE96
    replace ho35 := own_ext ho35 hE96
    replace ho43 := own_ext ho43 hE96
    replace ho44_0 := own_ext ho44_0 hE96
    replace hrc46 := hrc46.ext hE96
    replace ho47 := own_ext ho47 hE96
    replace hos47 := hos47.ext hE96
    replace hrc49 := hrc49.ext hE96
    replace ho50 := own_ext ho50 hE96
    replace hos50 := hos50.ext hE96
    replace hrc52 := hrc52.ext hE96
    replace ho53 := own_ext ho53 hE96
    replace hrc57 := hrc57.ext hE96
    replace ho58 := own_ext ho58 hE96
    replace ho61 := own_ext ho61 hE96
    replace ho62 := own_ext ho62 hE96
    replace hos63 := hos63.ext hE96
    replace ho63 := own_ext ho63 hE96
    replace ho68 := own_ext ho68 hE96
    replace hos69 := hos69.ext hE96
    replace ho69 := own_ext ho69 hE96
    replace ho82 := own_ext ho82 hE96
    replace ho85 := own_ext ho85 hE96
    replace ho88 := own_ext ho88 hE96
    replace ho91 := own_ext ho91 hE96
    replace hsz := Nat.le_trans hsz hE96.size
    refine l_q (q_pick_t (v := .bool _) rfl rfl rfl) ?_
    refine l_q (q_assign (v := .bool _) rfl rfl) ?_
    refine l_nil ?_
    refine r_forget [(0, .bool _)] ⟨rfl, trivial⟩ (fun e97 => ?_)
    refine r_ret_ (vs := [.bool _]) rfl Try.func14 rfl (.nil _) ⟨rfl, trivial⟩ ?_
    exact ⟨rfl, Ext.of_below hB⟩
  · skip
    refine m_o3 rfl rfl (o_makeSlice (n := 6) Try.underlying25 el3 (rfl) (rfl) (by omega) (by unfold maxLen; omega) rfl ?_)
    intro b98 w98 hzl98 hzr98 _ hb98 hE98 ho98
    refine ⟨hE98, ?_⟩
    rw [made_one _ _ rfl] at hb98 ho98
    have hbs_b98 : w.heap.size ≤ b98 := Nat.le_trans hsz hzl98
    replace hB := below_ext hB hE98 hsz
    replace hrc2 := hrc2.ext hE98
    replace ho3 := own_ext ho3 hE98
    replace hos3 := hos3.ext hE98
    replace ho5 := own_ext ho5 hE98
    replace ho6 := own_ext ho6 hE98
    replace ho7 := own_ext ho7 hE98
    replace hos8 := hos8.ext hE98
    replace ho8 := own_ext ho8 hE98
    replace ho11 := own_ext ho11 hE98
    replace hos12 := hos12.ext hE98
    replace ho12 := own_ext ho12 hE98
    replace ho16 := own_ext ho16 hE98
    replace hos17 := hos17.ext hE98
    replace ho17 := own_ext ho17 hE98
    replace ho26 := own_ext ho26 hE98
    replace ho29 := own_ext ho29 hE98
    replace ho32 := own_ext ho32 hE98
    replace ho35 := own_ext ho35 hE98
    replace ho43 := own_ext ho43 hE98
    replace ho44_0 := own_ext ho44_0 hE98
    replace hrc46 := hrc46.ext hE98
    replace ho47 := own_ext ho47 hE98
    replace hos47 := hos47.ext hE98
    replace hrc49 := hrc49.ext hE98
    replace ho50 := own_ext ho50 hE98
    replace hos50 := hos50.ext hE98
    replace hrc52 := hrc52.ext hE98
    replace ho53 := own_ext ho53 hE98
    replace hsz := Nat.le_trans hsz hE98.size
    replace ho98 : w98.ownsRow w56.heap.size 3 1 (.slice (some ⟨b98, 0, none⟩) 6 6) 6 ((List.replicate 6 0).map vint) := ho98
    refine m_o3 rfl rfl (o_call Try.call46 rfl (three_ret _) rfl ?_)
    rintro _ w99 ⟨ca99, cc99, rfl, hrc99, hE99⟩
    refine ⟨hE99, ?_⟩
    replace hB := below_ext hB hE99 hsz
    replace hrc2 := hrc2.ext hE99
    replace ho3 := own_ext ho3 hE99
    replace hos3 := hos3.ext hE99
    replace ho5 := own_ext ho5 hE99
    replace ho6 := own_ext ho6 hE99
    replace ho7 := own_ext ho7 hE99
    replace hos8 := hos8.ext hE99
    replace ho8 := own_ext ho8 hE99
    replace ho11 := own_ext ho11 hE99
    replace hos12 := hos12.ext hE99
    replace ho12 := own_ext ho12 hE99
    replace ho16 := own_ext ho16 hE99
    replace hos17 := hos17.ext hE99
    replace ho17 := own_ext ho17 hE99
    replace ho26 := own_ext ho26 hE99
    replace ho29 := own_ext ho29 hE99
    replace ho32 := own_ext ho32 hE99
    replace ho35 := own_ext ho35 hE99
    replace ho43 := own_ext ho43 hE99
    replace ho44_0 := own_ext ho44_0 hE99
    replace hrc46 := hrc46.ext hE99
    replace ho47 := own_ext ho47 hE99
    replace hos47 := hos47.ext hE99
    replace hrc49 := hrc49.ext hE99
    replace ho50 := own_ext ho50 hE99
    replace hos50 := hos50.ext hE99
    replace hrc52 := hrc52.ext hE99
    replace ho53 := own_ext ho53 hE99
    replace ho98 := own_ext ho98 hE99
    replace hsz := Nat.le_trans hsz hE99.size
    refine m_o3 rfl rfl (o_call Try.call21 rfl (send_ret _ _ three _ _ (List.replicate 6 0) _ hrc99 (by decide) (Row.of_owns ho98) (by decide) three_le) rfl ?_)
    rintro _ w100 ⟨rfl, hE100⟩
    refine ⟨hE100, ?_⟩
    replace hB := below_ext hB hE100 hsz
    replace hrc2 := hrc2.ext hE100
    replace ho3 := own_ext ho3 hE100
    replace hos3 := hos3.ext hE100
    replace ho5 := own_ext ho5 hE100
    replace ho6 := own_ext ho6 hE100
    replace ho7 := own_ext ho7 hE100
    replace hos8 := hos8.ext hE100
    replace ho8 := own_ext ho8 hE100
    replace ho11 := own_ext ho11 hE100
    replace hos12 := hos12.ext hE100
    replace ho12 := own_ext ho12 hE100
    replace ho16 := own_ext ho16 hE100
    replace hos17 := hos17.ext hE100
    replace ho17 := own_ext ho17 hE100
    replace ho26 := own_ext ho26 hE100
    replace ho29 := own_ext ho29 hE100
    replace ho32 := own_ext ho32 hE100
    replace ho35 := own_ext ho35 hE100
    replace ho43 := own_ext ho43 hE100
    replace ho44_0 := own_ext ho44_0 hE100
    replace hrc46 := hrc46.ext hE100
    replace ho47 := own_ext ho47 hE100
    replace hos47 := hos47.ext hE100
    replace hrc49 := hrc49.ext hE100
    replace ho50 := own_ext ho50 hE100
    replace hos50 := hos50.ext hE100
    replace hrc52 := hrc52.ext hE100
    replace ho53 := own_ext ho53 hE100
    replace ho98 := own_ext ho98 hE100
    replace hrc99 := hrc99.ext hE100
    replace hsz := Nat.le_trans hsz hE100.size
    refine m_q3 rfl rfl (fun w' hC' => q_move (v := .tuple _) rfl rfl) ?_
    refine m_q3 rfl rfl (fun w' hC' => q_extract (vs := [_, _]) (v := .string _) rfl rfl rfl) ?_
    refine m_q3 rfl rfl (fun w' hC' => q_extract (vs := [_, _]) (v := .int _ _) rfl rfl rfl) ?_
    refine m_q3 rfl rfl (fun w' hC' => q_assign (v := .string _) rfl rfl) ?_
    refine m_q3 rfl rfl (fun w' hC' => q_assign (v := .int _ _) rfl rfl) ?_
    refine m_nil3 ?_
    refine r_forget [(2, .int _ _), (5, .int _ _), (8, .int _ _), (10, .int _ _), (12, .int _ _), (14, .int _ _), (16, .int _ _)] ⟨rfl, rfl, rfl, rfl, rfl, rfl, rfl, trivial⟩ (fun e101 => ?_)
    refine r_seq ?_
    refine r_region' ?_
    refine l_o (o_buildSlice (el := 3) (cs := [vint 1]) Try.underlying25 el3 (by decide) (by kernel_rfl) rfl (by decide) rfl ?_)
    intro b102 w102 hzl102 hzr102 _ hb102 hE102 ho102
    have hszq102 : w.heap.size ≤ w100.heap.size := hsz
    have hbs_b102 : w.heap.size ≤ b102 := Nat.le_trans hsz hzl102
    replace hB := below_ext hB hE102 hsz
    replace hrc2 := hrc2.ext hE102
    replace ho3 := own_ext ho3 hE102
    replace hos3 := hos3.ext hE102
    replace ho5 := own_ext ho5 hE102
    replace ho6 := own_ext ho6 hE102
    replace ho7 := own_ext ho7 hE102
    replace hos8 := hos8.ext hE102
    replace ho8 := own_ext ho8 hE102
    replace ho11 := own_ext ho11 hE102
    replace hos12 := hos12.ext hE102
    replace ho12 := own_ext ho12 hE102
    replace ho16 := own_ext ho16 hE102
    replace hos17 := hos17.ext hE102
    replace ho17 := own_ext ho17 hE102
    replace ho26 := own_ext ho26 hE102
    replace ho29 := own_ext ho29 hE102
    replace ho32 := own_ext ho32 hE102
    replace ho35 := own_ext ho35 hE102
    replace ho43 := own_ext ho43 hE102
    replace ho44_0 := own_ext ho44_0 hE102
    replace hrc46 := hrc46.ext hE102
    replace ho47 := own_ext ho47 hE102
    replace hos47 := hos47.ext hE102
    replace hrc49 := hrc49.ext hE102
    replace ho50 := own_ext ho50 hE102
    replace hos50 := hos50.ext hE102
    replace hrc52 := hrc52.ext hE102
    replace ho53 := own_ext ho53 hE102
    replace ho98 := own_ext ho98 hE102
    replace hrc99 := hrc99.ext hE102
    replace hsz := Nat.le_trans hsz hE102.size
    refine l_o (o_buildSlice (el := 3) (cs := [vint 1]) Try.underlying25 el3 (by decide) (by kernel_rfl) rfl (by decide) rfl ?_)
    intro b103 w103 hzl103 hzr103 _ hb103 hE103 ho103
    have hszq103 : w.heap.size ≤ w102.heap.size := hsz
    have hbs_b103 : w.heap.size ≤ b103 := Nat.le_trans hsz hzl103
    replace hB := below_ext hB hE103 hsz
    replace hrc2 := hrc2.ext hE103
    replace ho3 := own_ext ho3 hE103
    replace hos3 := hos3.ext hE103
    replace ho5 := own_ext ho5 hE103
    replace ho6 := own_ext ho6 hE103
    replace ho7 := own_ext ho7 hE103
    replace hos8 := hos8.ext hE103
    replace ho8 := own_ext ho8 hE103
    replace ho11 := own_ext ho11 hE103
    replace hos12 := hos12.ext hE103
    replace ho12 := own_ext ho12 hE103
    replace ho16 := own_ext ho16 hE103
    replace hos17 := hos17.ext hE103
    replace ho17 := own_ext ho17 hE103
    replace ho26 := own_ext ho26 hE103
    replace ho29 := own_ext ho29 hE103
    replace ho32 := own_ext ho32 hE103
    replace ho35 := own_ext ho35 hE103
    replace ho43 := own_ext ho43 hE103
    replace ho44_0 := own_ext ho44_0 hE103
    replace hrc46 := hrc46.ext hE103
    replace ho47 := own_ext ho47 hE103
    replace hos47 := hos47.ext hE103
    replace hrc49 := hrc49.ext hE103
    replace ho50 := own_ext ho50 hE103
    replace hos50 := hos50.ext hE103
    replace hrc52 := hrc52.ext hE103
    replace ho53 := own_ext ho53 hE103
    replace ho98 := own_ext ho98 hE103
    replace hrc99 := hrc99.ext hE103
    replace ho102 := own_ext ho102 hE103
    replace hsz := Nat.le_trans hsz hE103.size
    refine l_o (o_buildSlice (el := 25) (cs := [.slice (some ⟨b102, 0, none⟩) 1 1, .slice (some ⟨b103, 0, none⟩) 1 1]) Try.underlying48 el25 (by decide) (by kernel_rfl) rfl (by decide) rfl ?_)
    intro b104 w104 hzl104 hzr104 _ hb104 hE104 ho104
    have hszq104 : w.heap.size ≤ w103.heap.size := hsz
    have hbs_b104 : w.heap.size ≤ b104 := Nat.le_trans hsz hzl104
    replace hB := below_ext hB hE104 hsz
    replace hrc2 := hrc2.ext hE104
    replace ho3 := own_ext ho3 hE104
    replace hos3 := hos3.ext hE104
    replace ho5 := own_ext ho5 hE104
    replace ho6 := own_ext ho6 hE104
    replace ho7 := own_ext ho7 hE104
    replace hos8 := hos8.ext hE104
    replace ho8 := own_ext ho8 hE104
    replace ho11 := own_ext ho11 hE104
    replace hos12 := hos12.ext hE104
    replace ho12 := own_ext ho12 hE104
    replace ho16 := own_ext ho16 hE104
    replace hos17 := hos17.ext hE104
    replace ho17 := own_ext ho17 hE104
    replace ho26 := own_ext ho26 hE104
    replace ho29 := own_ext ho29 hE104
    replace ho32 := own_ext ho32 hE104
    replace ho35 := own_ext ho35 hE104
    replace ho43 := own_ext ho43 hE104
    replace ho44_0 := own_ext ho44_0 hE104
    replace hrc46 := hrc46.ext hE104
    replace ho47 := own_ext ho47 hE104
    replace hos47 := hos47.ext hE104
    replace hrc49 := hrc49.ext hE104
    replace ho50 := own_ext ho50 hE104
    replace hos50 := hos50.ext hE104
    replace hrc52 := hrc52.ext hE104
    replace ho53 := own_ext ho53 hE104
    replace ho98 := own_ext ho98 hE104
    replace hrc99 := hrc99.ext hE104
    replace ho102 := own_ext ho102 hE104
    replace ho103 := own_ext ho103 hE104
    replace hsz := Nat.le_trans hsz hE104.size
    have hos104 : OwnsI w104 w.heap.size 3 [⟨some ⟨b102, 0, none⟩, 1, [1]⟩, ⟨some ⟨b103, 0, none⟩, 1, [1]⟩] := OwnsI.snoc (OwnsI.snoc (OwnsI.nil _ _ _) (own_mono ho102 (by omega))) (own_mono ho103 (by omega))
    refine l_o (o_call Try.call37 rfl (frepeat_ret _ _ [⟨some ⟨b102, 0, none⟩, 1, [1]⟩, ⟨some ⟨b103, 0, none⟩, 1, [1]⟩] _ (Row.of_owns ho104) hos104.rows (by simp) (by simp)) rfl ?_)
    rintro _ w105 ⟨rfl, hE105⟩
    replace hB := below_ext hB hE105 hsz
    replace hrc2 := hrc2.ext hE105
    replace ho3 := own_ext ho3 hE105
    replace hos3 := hos3.ext hE105
    replace ho5 := own_ext ho5 hE105
    replace ho6 := own_ext ho6 hE105
    replace ho7 := own_ext ho7 hE105
    replace hos8 := hos8.ext hE105
    replace ho8 := own_ext ho8 hE105
    replace ho11 := own_ext ho11 hE105
    replace hos12 := hos12.ext hE105
    replace ho12 := own_ext ho12 hE105
    replace ho16 := own_ext ho16 hE105
    replace hos17 := hos17.ext hE105
    replace ho17 := own_ext ho17 hE105
    replace ho26 := own_ext ho26 hE105
    replace ho29 := own_ext ho29 hE105
    replace ho32 := own_ext ho32 hE105
    replace ho35 := own_ext ho35 hE105
    replace ho43 := own_ext ho43 hE105
    replace ho44_0 := own_ext ho44_0 hE105
    replace hrc46 := hrc46.ext hE105
    replace ho47 := own_ext ho47 hE105
    replace hos47 := hos47.ext hE105
    replace hrc49 := hrc49.ext hE105
    replace ho50 := own_ext ho50 hE105
    replace hos50 := hos50.ext hE105
    replace hrc52 := hrc52.ext hE105
    replace ho53 := own_ext ho53 hE105
    replace ho98 := own_ext ho98 hE105
    replace hrc99 := hrc99.ext hE105
    replace ho102 := own_ext ho102 hE105
    replace ho103 := own_ext ho103 hE105
    replace hos104 := hos104.ext hE105
    replace ho104 := own_ext ho104 hE105
    replace hsz := Nat.le_trans hsz hE105.size
    refine l_q (q_move (v := .tuple _) rfl rfl) ?_
    refine l_q (q_extract (vs := [_, _, _]) (v := .int _ _) rfl rfl rfl) ?_
    refine l_q (q_extract (vs := [_, _, _]) (v := .int _ _) rfl rfl rfl) ?_
    refine l_q (q_extract (vs := [_, _, _]) (v := .int _ _) rfl rfl rfl) ?_
    refine l_q (q_assign (v := .int _ _) rfl rfl) ?_
    refine l_q (q_assign (v := .int _ _) rfl rfl) ?_
    refine l_q (q_assign (v := .int _ _) rfl rfl) ?_
    refine l_nil ?_
    refine r_forget [(2, .int _ _), (5, .int _ _), (8, .int _ _), (10, .int _ _), (12, .int _ _), (14, .int _ _), (16, .int _ _), (19, .int _ _)] ⟨rfl, rfl, rfl, rfl, rfl, rfl, rfl, rfl, trivial⟩ (fun e106 => ?_)
    refine r_seq ?_
    refine r_region' ?_
    refine l_o (o_call Try.call37 rfl (frepeat_ret none 0 [] _ (Row.nil _ _ _ _) (RowsI.nil _) (by simp) (by simp)) rfl ?_)
    rintro _ w107 ⟨rfl, hE107⟩
    replace hB := below_ext hB hE107 hsz
    replace hrc2 := hrc2.ext hE107
    replace ho3 := own_ext ho3 hE107
    replace hos3 := hos3.ext hE107
    replace ho5 := own_ext ho5 hE107
    replace ho6 := own_ext ho6 hE107
    replace ho7 := own_ext ho7 hE107
    replace hos8 := hos8.ext hE107
    replace ho8 := own_ext ho8 hE107
    replace ho11 := own_ext ho11 hE107
    replace hos12 := hos12.ext hE107
    replace ho12 := own_ext ho12 hE107
    replace ho16 := own_ext ho16 hE107
    replace hos17 := hos17.ext hE107
    replace ho17 := own_ext ho17 hE107
    replace ho26 := own_ext ho26 hE107
    replace ho29 := own_ext ho29 hE107
    replace ho32 := own_ext ho32 hE107
    replace ho35 := own_ext ho35 hE107
    replace ho43 := own_ext ho43 hE107
    replace ho44_0 := own_ext ho44_0 hE107
    replace hrc46 := hrc46.ext hE107
    replace ho47 := own_ext ho47 hE107
    replace hos47 := hos47.ext hE107
    replace hrc49 := hrc49.ext hE107
    replace ho50 := own_ext ho50 hE107
    replace hos50 := hos50.ext hE107
    replace hrc52 := hrc52.ext hE107
    replace ho53 := own_ext ho53 hE107
    replace ho98 := own_ext ho98 hE107
    replace hrc99 := hrc99.ext hE107
    replace ho102 := own_ext ho102 hE107
    replace ho103 := own_ext ho103 hE107
    replace hos104 := hos104.ext hE107
    replace ho104 := own_ext ho104 hE107
    replace hsz := Nat.le_trans hsz hE107.size
    refine l_q (q_move (v := .tuple _) rfl rfl) ?_
    refine l_q (q_extract (vs := [_, _, _]) (v := .int _ _) rfl rfl rfl) ?_
    refine l_q (q_extract (vs := [_, _, _]) (v := .int _ _) rfl rfl rfl) ?_
    refine l_q (q_extract (vs := [_, _, _]) (v := .int _ _) rfl rfl rfl) ?_
    refine l_q (q_assign (v := .int _ _) rfl rfl) ?_
    refine l_q (q_assign (v := .int _ _) rfl rfl) ?_
    refine l_q (q_assign (v := .int _ _) rfl rfl) ?_
    refine l_nil ?_
    refine r_forget [(2, .int _ _), (5, .int _ _), (8, .int _ _), (10, .int _ _), (12, .int _ _), (14, .int _ _), (16, .int _ _), (19, .int _ _), (22, .int _ _)] ⟨rfl, rfl, rfl, rfl, rfl, rfl, rfl, rfl, rfl, trivial⟩ (fun e108 => ?_)
    refine r_seq ?_
    refine r_region' ?_
    refine l_o (o_buildSlice (el := 3) (cs := [vint 6]) Try.underlying25 el3 (by decide) (by kernel_rfl) rfl (by decide) rfl ?_)
    intro b109 w109 hzl109 hzr109 _ hb109 hE109 ho109
    have hszq109 : w.heap.size ≤ w107.heap.size := hsz
    have hbs_b109 : w.heap.size ≤ b109 := Nat.le_trans hsz hzl109
    replace hB := below_ext hB hE109 hsz
    replace hrc2 := hrc2.ext hE109
    replace ho3 := own_ext ho3 hE109
    replace hos3 := hos3.ext hE109
    replace ho5 := own_ext ho5 hE109
    replace ho6 := own_ext ho6 hE109
    replace ho7 := own_ext ho7 hE109
    replace hos8 := hos8.ext hE109
    replace ho8 := own_ext ho8 hE109
    replace ho11 := own_ext ho11 hE109
    replace hos12 := hos12.ext hE109
    replace ho12 := own_ext ho12 hE109
    replace ho16 := own_ext ho16 hE109
    replace hos17 := hos17.ext hE109
    replace ho17 := own_ext ho17 hE109
    replace ho26 := own_ext ho26 hE109
    replace ho29 := own_ext ho29 hE109
    replace ho32 := own_ext ho32 hE109
    replace ho35 := own_ext ho35 hE109
    replace ho43 := own_ext ho43 hE109
    replace ho44_0 := own_ext ho44_0 hE109
    replace hrc46 := hrc46.ext hE109
    replace ho47 := own_ext ho47 hE109
    replace hos47 := hos47.ext hE109
    replace hrc49 := hrc49.ext hE109
    replace ho50 := own_ext ho50 hE109
    replace hos50 := hos50.ext hE109
    replace hrc52 := hrc52.ext hE109
    replace ho53 := own_ext ho53 hE109
    replace ho98 := own_ext ho98 hE109
    replace hrc99 := hrc99.ext hE109
    replace ho102 := own_ext ho102 hE109
    replace ho103 := own_ext ho103 hE109
    replace hos104 := hos104.ext hE109
    replace ho104 := own_ext ho104 hE109
    replace hsz := Nat.le_trans hsz hE109.size
    refine l_o (o_buildSlice (el := 25) (cs := [.slice (some ⟨b109, 0, none⟩) 1 1]) Try.underlying48 el25 (by decide) (by kernel_rfl) rfl (by decide) rfl ?_)
    intro b110 w110 hzl110 hzr110 _ hb110 hE110 ho110
    have hszq110 : w.heap.size ≤ w109.heap.size := hsz
    have hbs_b110 : w.heap.size ≤ b110 := Nat.le_trans hsz hzl110
    replace hB := below_ext hB hE110 hsz
    replace hrc2 := hrc2.ext hE110
    replace ho3 := own_ext ho3 hE110
    replace hos3 := hos3.ext hE110
    replace ho5 := own_ext ho5 hE110
    replace ho6 := own_ext ho6 hE110
    replace ho7 := own_ext ho7 hE110
    replace hos8 := hos8.ext hE110
    replace ho8 := own_ext ho8 hE110
    replace ho11 := own_ext ho11 hE110
    replace hos12 := hos12.ext hE110
    replace ho12 := own_ext ho12 hE110
    replace ho16 := own_ext ho16 hE110
    replace hos17 := hos17.ext hE110
    replace ho17 := own_ext ho17 hE110
    replace ho26 := own_ext ho26 hE110
    replace ho29 := own_ext ho29 hE110
    replace ho32 := own_ext ho32 hE110
    replace ho35 := own_ext ho35 hE110
    replace ho43 := own_ext ho43 hE110
    replace ho44_0 := own_ext ho44_0 hE110
    replace hrc46 := hrc46.ext hE110
    replace ho47 := own_ext ho47 hE110
    replace hos47 := hos47.ext hE110
    replace hrc49 := hrc49.ext hE110
    replace ho50 := own_ext ho50 hE110
    replace hos50 := hos50.ext hE110
    replace hrc52 := hrc52.ext hE110
    replace ho53 := own_ext ho53 hE110
    replace ho98 := own_ext ho98 hE110
    replace hrc99 := hrc99.ext hE110
    replace ho102 := own_ext ho102 hE110
    replace ho103 := own_ext ho103 hE110
    replace hos104 := hos104.ext hE110
    replace ho104 := own_ext ho104 hE110
    replace ho109 := own_ext ho109 hE110
    replace hsz := Nat.le_trans hsz hE110.size
    have hos110 : OwnsI w110 w.heap.size 3 [⟨some ⟨b109, 0, none⟩, 1, [6]⟩] := OwnsI.snoc (OwnsI.nil _ _ _) (own_mono ho109 (by omega))
    refine l_o (o_call Try.call37 rfl (frepeat_ret _ _ [⟨some ⟨b109, 0, none⟩, 1, [6]⟩] _ (Row.of_owns ho110) hos110.rows (by simp) (by simp)) rfl ?_)
    rintro _ w111 ⟨rfl, hE111⟩
    replace hB := below_ext hB hE111 hsz
    replace hrc2 := hrc2.ext hE111
    replace ho3 := own_ext ho3 hE111
    replace hos3 := hos3.ext hE111
    replace ho5 := own_ext ho5 hE111
    replace ho6 := own_ext ho6 hE111
    replace ho7 := own_ext ho7 hE111
    replace hos8 := hos8.ext hE111
    replace ho8 := own_ext ho8 hE111
    replace ho11 := own_ext ho11 hE111
    replace hos12 := hos12.ext hE111
    replace ho12 := own_ext ho12 hE111
    replace ho16 := own_ext ho16 hE111
    replace hos17 := hos17.ext hE111
    replace ho17 := own_ext ho17 hE111
    replace ho26 := own_ext ho26 hE111
    replace ho29 := own_ext ho29 hE111
    replace ho32 := own_ext ho32 hE111
    replace ho35 := own_ext ho35 hE111
    replace ho43 := own_ext ho43 hE111
    replace ho44_0 := own_ext ho44_0 hE111
    replace hrc46 := hrc46.ext hE111
    replace ho47 := own_ext ho47 hE111
    replace hos47 := hos47.ext hE111
    replace hrc49 := hrc49.ext hE111
    replace ho50 := own_ext ho50 hE111
    replace hos50 := hos50.ext hE111
    replace hrc52 := hrc52.ext hE111
    replace ho53 := own_ext ho53 hE111
    replace ho98 := own_ext ho98 hE111
    replace hrc99 := hrc99.ext hE111
    replace ho102 := own_ext ho102 hE111
    replace ho103 := own_ext ho103 hE111
    replace hos104 := hos104.ext hE111
    replace ho104 := own_ext ho104 hE111
    replace ho109 := own_ext ho109 hE111
    replace hos110 := hos110.ext hE111
    replace ho110 := own_ext ho110 hE111
    replace hsz := Nat.le_trans hsz hE111.size
    refine l_q (q_move (v := .tuple _) rfl rfl) ?_
    refine l_q (q_extract (vs := [_, _, _]) (v := .int _ _) rfl rfl rfl) ?_
    refine l_q (q_extract (vs := [_, _, _]) (v := .int _ _) rfl rfl rfl) ?_
    refine l_q (q_extract (vs := [_, _, _]) (v := .int _ _) rfl rfl rfl) ?_
    refine l_q (q_assign (v := .int _ _) rfl rfl) ?_
    refine l_q (q_assign (v := .int _ _) rfl rfl) ?_
    refine l_q (q_assign (v := .int _ _) rfl rfl) ?_
    refine l_nil ?_
    refine r_forget [(2, .int _ _), (5, .int _ _), (8, .int _ _), (10, .int _ _), (12, .int _ _), (14, .int _ _), (16, .int _ _), (19, .int _ _), (22, .int _ _), (25, .int _ _)] ⟨rfl, rfl, rfl, rfl, rfl, rfl, rfl, rfl, rfl, rfl, trivial⟩ (fun e112 => ?_)
    refine r_seq ?_
    refine r_region' ?_
    refine l_q (q_move (v := .int _ _) rfl rfl) ?_
    refine l_q (q_eql rfl rfl rfl) ?_
    refine l_q (q_move (v := .bool _) rfl rfl) ?_
    have hk113 : (decide (((errs [46] [45]).2) = 11)) = true := by decide +kernel
    refine l_part 155 rfl (fun _ => ?_) (fun hx => absurd (hk113.symm.trans hx) (by decide))
    refine l_q (q_move (v := .int _ _) rfl rfl) ?_
    refine l_q (q_eql rfl rfl rfl) ?_
    refine l_q (q_pick_t (v := .bool _) rfl rfl rfl) ?_
    refine l_q (q_move (v := .bool _) rfl rfl) ?_
    have hk114 : (decide (((errs [46] [120]).2) = 4)) = true := by decide +kernel
    refine l_part 159 rfl (fun _ => ?_) (fun hx => absurd (hk114.symm.trans hx) (by decide))
    refine l_q (q_move (v := .int _ _) rfl rfl) ?_
    refine l_q (q_eql rfl rfl rfl) ?_
    refine l_q (q_pick_t (v := .bool _) rfl rfl rfl) ?_
    refine l_q (q_move (v := .bool _) rfl rfl) ?_
    have hk115 : (decide (((errs (List.replicate 41 (0 : UInt8)) []).2) = 3)) = true := by decide +kernel
    refine l_part 163 rfl (fun _ => ?_) (fun hx => absurd (hk115.symm.trans hx) (by decide))
    refine l_q (q_move (v := .int _ _) rfl rfl) ?_
    refine l_q (q_eql rfl rfl rfl) ?_
    refine l_q (q_pick_t (v := .bool _) rfl rfl rfl) ?_
    refine l_q (q_move (v := .bool _) rfl rfl) ?_
    have hk116 : (decide ((txErr three [46, 46] 4 2) = 2)) = true := by decide +kernel
    refine l_part 167 rfl (fun _ => ?_) (fun hx => absurd (hk116.symm.trans hx) (by decide))
    refine l_q (q_move (v := .int _ _) rfl rfl) ?_
    refine l_q (q_eql rfl rfl rfl) ?_
    refine l_q (q_pick_t (v := .bool _) rfl rfl rfl) ?_
    refine l_q (q_move (v := .bool _) rfl rfl) ?_
    have hk117 : (decide ((txErr three [46, 46] 1 6) = 2)) = true := by decide +kernel
    refine l_part 171 rfl (fun _ => ?_) (fun hx => absurd (hk117.symm.trans hx) (by decide))
    refine l_q (q_move (v := .int _ _) rfl rfl) ?_
    refine l_q (q_eql rfl rfl rfl) ?_
    refine l_q (q_pick_t (v := .bool _) rfl rfl rfl) ?_
    refine l_q (q_move (v := .bool _) rfl rfl) ?_
    have hk118 : (decide (((send three [3]).2) = 2)) = true := by decide +kernel
    refine l_part 175 rfl (fun _ => ?_) (fun hx => absurd (hk118.symm.trans hx) (by decide))
    refine l_q (q_move (v := .int _ _) rfl rfl) ?_
    refine l_q (q_eql rfl rfl rfl) ?_
    refine l_q (q_pick_t (v := .bool _) rfl rfl rfl) ?_
    refine l_q (q_move (v := .bool _) rfl rfl) ?_
    have hk119 : (decide (((send three (List.replicate 6 0)).2) = 3)) = true := by decide +kernel
    refine l_part 179 rfl (fun _ => ?_) (fun hx => absurd (hk119.symm.trans hx) (by decide))
    refine l_q (q_move (v := .int _ _) rfl rfl) ?_
    refine l_q (q_eql rfl rfl rfl) ?_
    refine l_q (q_pick_t (v := .bool _) rfl rfl rfl) ?_
    refine l_q (q_move (v := .bool _) rfl rfl) ?_
    have hk120 : (decide (((repAll [[1], [1]]).2.2) = 6)) = true := by decide +kernel
    refine l_part 183 rfl (fun _ => ?_) (fun hx => absurd (hk120.symm.trans hx) (by decide))
    refine l_q (q_move (v := .int _ _) rfl rfl) ?_
    refine l_q (q_eql rfl rfl rfl) ?_
    refine l_q (q_pick_t (v := .bool _) rfl rfl rfl) ?_
    refine l_q (q_move (v := .bool _) rfl rfl) ?_
    have hk121 : (decide (((repAll []).2.2) = 2)) = true := by decide +kernel
    refine l_part 187 rfl (fun _ => ?_) (fun hx => absurd (hk121.symm.trans hx) (by decide))
    refine l_q (q_move (v := .int _ _) rfl rfl) ?_
    refine l_q (q_eql rfl rfl rfl) ?_
    refine l_q (q_pick_t (v := .bool _) rfl rfl rfl) ?_
    refine l_q (q_move (v := .bool _) rfl rfl) ?_
    have hk122 : (decide (((repAll [[6]]).2.2) = 2)) = true := by decide +kernel
    refine l_part 191 rfl (fun _ => ?_) (fun hx => absurd (hk122.symm.trans hx) (by decide))
    refine l_o (o_buildSlice (el := 9) (cs := [vstr [46], vstr [46]]) Try.underlying22 el9 (by decide) (by kernel_rfl) rfl (by decide) rfl ?_)
    intro b123 w123 hzl123 hzr123 _ hb123 hE123 ho123
    have hszq123 : w.heap.size ≤ w111.heap.size := hsz
    have hbs_b123 : w.heap.size ≤ b123 := Nat.le_trans hsz hzl123
    replace hB := below_ext hB hE123 hsz
    replace hrc2 := hrc2.ext hE123
    replace ho3 := own_ext ho3 hE123
    replace hos3 := hos3.ext hE123
    replace ho5 := own_ext ho5 hE123
    replace ho6 := own_ext ho6 hE123
    replace ho7 := own_ext ho7 hE123
    replace hos8 := hos8.ext hE123
    replace ho8 := own_ext ho8 hE123
    replace ho11 := own_ext ho11 hE123
    replace hos12 := hos12.ext hE123
    replace ho12 := own_ext ho12 hE123
    replace ho16 := own_ext ho16 hE123
    replace hos17 := hos17.ext hE123
    replace ho17 := own_ext ho17 hE123
    replace ho26 := own_ext ho26 hE123
    replace ho29 := own_ext ho29 hE123
    replace ho32 := own_ext ho32 hE123
    replace ho35 := own_ext ho35 hE123
    replace ho43 := own_ext ho43 hE123
    replace ho44_0 := own_ext ho44_0 hE123
    replace hrc46 := hrc46.ext hE123
    replace ho47 := own_ext ho47 hE123
    replace hos47 := hos47.ext hE123
    replace hrc49 := hrc49.ext hE123
    replace ho50 := own_ext ho50 hE123
    replace hos50 := hos50.ext hE123
    replace hrc52 := hrc52.ext hE123
    replace ho53 := own_ext ho53 hE123
    replace ho98 := own_ext ho98 hE123
    replace hrc99 := hrc99.ext hE123
    replace ho102 := own_ext ho102 hE123
    replace ho103 := own_ext ho103 hE123
    replace hos104 := hos104.ext hE123
    replace ho104 := own_ext ho104 hE123
    replace ho109 := own_ext ho109 hE123
    replace hos110 := hos110.ext hE123
    replace ho110 := own_ext ho110 hE123
    replace hsz := Nat.le_trans hsz hE123.size
    refine l_q (q_build (v := .agg ⟨[.slice (some ⟨b123, 0, none⟩) 2 2]⟩) (fun w => by kernel_rfl) rfl) ?_
    refine l_o (o_call Try.call19 rfl (checkCode_ret _ _ [[46], [46]] _ (Row.of_owns ho123) (by decide) (by decide)) rfl ?_)
    rintro _ w124 ⟨rfl, hE124⟩
    replace hB := below_ext hB hE124 hsz
    replace hrc2 := hrc2.ext hE124
    replace ho3 := own_ext ho3 hE124
    replace hos3 := hos3.ext hE124
    replace ho5 := own_ext ho5 hE124
    replace ho6 := own_ext ho6 hE124
    replace ho7 := own_ext ho7 hE124
    replace hos8 := hos8.ext hE124
    replace ho8 := own_ext ho8 hE124
    replace ho11 := own_ext ho11 hE124
    replace hos12 := hos12.ext hE124
    replace ho12 := own_ext ho12 hE124
    replace ho16 := own_ext ho16 hE124
    replace hos17 := hos17.ext hE124
    replace ho17 := own_ext ho17 hE124
    replace ho26 := own_ext ho26 hE124
    replace ho29 := own_ext ho29 hE124
    replace ho32 := own_ext ho32 hE124
    replace ho35 := own_ext ho35 hE124
    replace ho43 := own_ext ho43 hE124
    replace ho44_0 := own_ext ho44_0 hE124
    replace hrc46 := hrc46.ext hE124
    replace ho47 := own_ext ho47 hE124
    replace hos47 := hos47.ext hE124
    replace hrc49 := hrc49.ext hE124
    replace ho50 := own_ext ho50 hE124
    replace hos50 := hos50.ext hE124
    replace hrc52 := hrc52.ext hE124
    replace ho53 := own_ext ho53 hE124
    replace ho98 := own_ext ho98 hE124
    replace hrc99 := hrc99.ext hE124
    replace ho102 := own_ext ho102 hE124
    replace ho103 := own_ext ho103 hE124
    replace hos104 := hos104.ext hE124
    replace ho104 := own_ext ho104 hE124
    replace ho109 := own_ext ho109 hE124
    replace hos110 := hos110.ext hE124
    replace ho110 := own_ext ho110 hE124
    replace ho123 := own_ext ho123 hE124
    replace hsz := Nat.le_trans hsz hE124.size
    refine l_q (q_eql rfl rfl rfl) ?_
    refine l_q (q_pick_t (v := .bool _) rfl rfl rfl) ?_
    refine l_q (q_move (v := .bool _) rfl rfl) ?_
    have hk125 : (decide ((fault [[46], [46]]) = 1)) = true := by decide +kernel
    refine l_part 197 rfl (fun _ => ?_) (fun hx => absurd (hk125.symm.trans hx) (by decide))
    refine l_o (o_buildSlice (el := 9) (cs := [vstr [46, 46, 46, 46, 46]]) Try.underlying22 el9 (by decide) (by kernel_rfl) rfl (by decide) rfl ?_)
    intro b126 w126 hzl126 hzr126 _ hb126 hE126 ho126
    have hszq126 : w.heap.size ≤ w124.heap.size := hsz
    have hbs_b126 : w.heap.size ≤ b126 := Nat.le_trans hsz hzl126
    replace hB := below_ext hB hE126 hsz
    replace hrc2 := hrc2.ext hE126
    replace ho3 := own_ext ho3 hE126
    replace hos3 := hos3.ext hE126
    replace ho5 := own_ext ho5 hE126
    replace ho6 := own_ext ho6 hE126
    replace ho7 := own_ext ho7 hE126
    replace hos8 := hos8.ext hE126
    replace ho8 := own_ext ho8 hE126
    replace ho11 := own_ext ho11 hE126
    replace hos12 := hos12.ext hE126
    replace ho12 := own_ext ho12 hE126
    replace ho16 := own_ext ho16 hE126
    replace hos17 := hos17.ext hE126
    replace ho17 := own_ext ho17 hE126
    replace ho26 := own_ext ho26 hE126
    replace ho29 := own_ext ho29 hE126
    replace ho32 := own_ext ho32 hE126
    replace ho35 := own_ext ho35 hE126
    replace ho43 := own_ext ho43 hE126
    replace ho44_0 := own_ext ho44_0 hE126
    replace hrc46 := hrc46.ext hE126
    replace ho47 := own_ext ho47 hE126
    replace hos47 := hos47.ext hE126
    replace hrc49 := hrc49.ext hE126
    replace ho50 := own_ext ho50 hE126
    replace hos50 := hos50.ext hE126
    replace hrc52 := hrc52.ext hE126
    replace ho53 := own_ext ho53 hE126
    replace ho98 := own_ext ho98 hE126
    replace hrc99 := hrc99.ext hE126
    replace ho102 := own_ext ho102 hE126
    replace ho103 := own_ext ho103 hE126
    replace hos104 := hos104.ext hE126
    replace ho104 := own_ext ho104 hE126
    replace ho109 := own_ext ho109 hE126
    replace hos110 := hos110.ext hE126
    replace ho110 := own_ext ho110 hE126
    replace ho123 := own_ext ho123 hE126
    replace hsz := Nat.le_trans hsz hE126.size
    refine l_q (q_build (v := .agg ⟨[.slice (some ⟨b126, 0, none⟩) 1 1]⟩) (fun w => by kernel_rfl) rfl) ?_
    refine l_o (o_call Try.call19 rfl (checkCode_ret _ _ [[46, 46, 46, 46, 46]] _ (Row.of_owns ho126) (by decide) (by decide)) rfl ?_)
    rintro _ w127 ⟨rfl, hE127⟩
    replace hB := below_ext hB hE127 hsz
    replace hrc2 := hrc2.ext hE127
    replace ho3 := own_ext ho3 hE127
    replace hos3 := hos3.ext hE127
    replace ho5 := own_ext ho5 hE127
    replace ho6 := own_ext ho6 hE127
    replace ho7 := own_ext ho7 hE127
    replace hos8 := hos8.ext hE127
    replace ho8 := own_ext ho8 hE127
    replace ho11 := own_ext ho11 hE127
    replace hos12 := hos12.ext hE127
    replace ho12 := own_ext ho12 hE127
    replace ho16 := own_ext ho16 hE127
    replace hos17 := hos17.ext hE127
    replace ho17 := own_ext ho17 hE127
    replace ho26 := own_ext ho26 hE127
    replace ho29 := own_ext ho29 hE127
    replace ho32 := own_ext ho32 hE127
    replace ho35 := own_ext ho35 hE127
    replace ho43 := own_ext ho43 hE127
    replace ho44_0 := own_ext ho44_0 hE127
    replace hrc46 := hrc46.ext hE127
    replace ho47 := own_ext ho47 hE127
    replace hos47 := hos47.ext hE127
    replace hrc49 := hrc49.ext hE127
    replace ho50 := own_ext ho50 hE127
    replace hos50 := hos50.ext hE127
    replace hrc52 := hrc52.ext hE127
    replace ho53 := own_ext ho53 hE127
    replace ho98 := own_ext ho98 hE127
    replace hrc99 := hrc99.ext hE127
    replace ho102 := own_ext ho102 hE127
    replace ho103 := own_ext ho103 hE127
    replace hos104 := hos104.ext hE127
    replace ho104 := own_ext ho104 hE127
    replace ho109 := own_ext ho109 hE127
    replace hos110 := hos110.ext hE127
    replace ho110 := own_ext ho110 hE127
    replace ho123 := own_ext ho123 hE127
    replace ho126 := own_ext ho126 hE127
    replace hsz := Nat.le_trans hsz hE127.size
    refine l_q (q_eql rfl rfl rfl) ?_
    refine l_q (q_pick_t (v := .bool _) rfl rfl rfl) ?_
    refine l_q (q_move (v := .bool _) rfl rfl) ?_
    have hk128 : (decide ((fault [[46, 46, 46, 46, 46]]) = 1)) = true := by decide +kernel
    refine l_part 203 rfl (fun _ => ?_) (fun hx => absurd (hk128.symm.trans hx) (by decide))
    refine l_o (o_buildSlice (el := 9) (cs := [vstr [46, 32, 46]]) Try.underlying22 el9 (by decide) (by kernel_rfl) rfl (by decide) rfl ?_)
    intro b129 w129 hzl129 hzr129 _ hb129 hE129 ho129
    have hszq129 : w.heap.size ≤ w127.heap.size := hsz
    have hbs_b129 : w.heap.size ≤ b129 := Nat.le_trans hsz hzl129
    replace hB := below_ext hB hE129 hsz
    replace hrc2 := hrc2.ext hE129
    replace ho3 := own_ext ho3 hE129
    replace hos3 := hos3.ext hE129
    replace ho5 := own_ext ho5 hE129
    replace ho6 := own_ext ho6 hE129
    replace ho7 := own_ext ho7 hE129
    replace hos8 := hos8.ext hE129
    replace ho8 := own_ext ho8 hE129
    replace ho11 := own_ext ho11 hE129
    replace hos12 := hos12.ext hE129
    replace ho12 := own_ext ho12 hE129
    replace ho16 := own_ext ho16 hE129
    replace hos17 := hos17.ext hE129
    replace ho17 := own_ext ho17 hE129
    replace ho26 := own_ext ho26 hE129
    replace ho29 := own_ext ho29 hE129
    replace ho32 := own_ext ho32 hE129
    replace ho35 := own_ext ho35 hE129
    replace ho43 := own_ext ho43 hE129
    replace ho44_0 := own_ext ho44_0 hE129
    replace hrc46 := hrc46.ext hE129
    replace ho47 := own_ext ho47 hE129
    replace hos47 := hos47.ext hE129
    replace hrc49 := hrc49.ext hE129
    replace ho50 := own_ext ho50 hE129
    replace hos50 := hos50.ext hE129
    replace hrc52 := hrc52.ext hE129
    replace ho53 := own_ext ho53 hE129
    replace ho98 := own_ext ho98 hE129
    replace hrc99 := hrc99.ext hE129
    replace ho102 := own_ext ho102 hE129
    replace ho103 := own_ext ho103 hE129
    replace hos104 := hos104.ext hE129
    replace ho104 := own_ext ho104 hE129
    replace ho109 := own_ext ho109 hE129
    replace hos110 := hos110.ext hE129
    replace ho110 := own_ext ho110 hE129
    replace ho123 := own_ext ho123 hE129
    replace ho126 := own_ext ho126 hE129
    replace hsz := Nat.le_trans hsz hE129.size
    refine l_q (q_build (v := .agg ⟨[.slice (some ⟨b129, 0, none⟩) 1 1]⟩) (fun w => by kernel_rfl) rfl) ?_
    refine l_o (o_call Try.call19 rfl (checkCode_ret _ _ [[46, 32, 46]] _ (Row.of_owns ho129) (by decide) (by decide)) rfl ?_)
    rintro _ w130 ⟨rfl, hE130⟩
    replace hB := below_ext hB hE130 hsz
    replace hrc2 := hrc2.ext hE130
    replace ho3 := own_ext ho3 hE130
    replace hos3 := hos3.ext hE130
    replace ho5 := own_ext ho5 hE130
    replace ho6 := own_ext ho6 hE130
    replace ho7 := own_ext ho7 hE130
    replace hos8 := hos8.ext hE130
    replace ho8 := own_ext ho8 hE130
    replace ho11 := own_ext ho11 hE130
    replace hos12 := hos12.ext hE130
    replace ho12 := own_ext ho12 hE130
    replace ho16 := own_ext ho16 hE130
    replace hos17 := hos17.ext hE130
    replace ho17 := own_ext ho17 hE130
    replace ho26 := own_ext ho26 hE130
    replace ho29 := own_ext ho29 hE130
    replace ho32 := own_ext ho32 hE130
    replace ho35 := own_ext ho35 hE130
    replace ho43 := own_ext ho43 hE130
    replace ho44_0 := own_ext ho44_0 hE130
    replace hrc46 := hrc46.ext hE130
    replace ho47 := own_ext ho47 hE130
    replace hos47 := hos47.ext hE130
    replace hrc49 := hrc49.ext hE130
    replace ho50 := own_ext ho50 hE130
    replace hos50 := hos50.ext hE130
    replace hrc52 := hrc52.ext hE130
    replace ho53 := own_ext ho53 hE130
    replace ho98 := own_ext ho98 hE130
    replace hrc99 := hrc99.ext hE130
    replace ho102 := own_ext ho102 hE130
    replace ho103 := own_ext ho103 hE130
    replace hos104 := hos104.ext hE130
    replace ho104 := own_ext ho104 hE130
    replace ho109 := own_ext ho109 hE130
    replace hos110 := hos110.ext hE130
    replace ho110 := own_ext ho110 hE130
    replace ho123 := own_ext ho123 hE130
    replace ho126 := own_ext ho126 hE130
    replace ho129 := own_ext ho129 hE130
    replace hsz := Nat.le_trans hsz hE130.size
    refine l_q (q_eql rfl rfl rfl) ?_
    refine l_q (q_pick_t (v := .bool _) rfl rfl rfl) ?_
    refine l_q (q_move (v := .bool _) rfl rfl) ?_
    have hk131 : (decide ((fault [[46, 32, 46]]) = 1)) = true := by decide +kernel
    refine l_part 209 rfl (fun _ => ?_) (fun hx => absurd (hk131.symm.trans hx) (by decide))
    refine l_o (o_makeSlice (n := 7) Try.underlying22 el9 (rfl) (rfl) (by omega) (by unfold maxLen; omega) rfl ?_)
    intro b132 w132 hzl132 hzr132 _ hb132 hE132 ho132
    rw [made_one _ _ rfl] at hb132 ho132
    have hbs_b132 : w.heap.size ≤ b132 := Nat.le_trans hsz hzl132
    replace hB := below_ext hB hE132 hsz
    replace hrc2 := hrc2.ext hE132
    replace ho3 := own_ext ho3 hE132
    replace hos3 := hos3.ext hE132
    replace ho5 := own_ext ho5 hE132
    replace ho6 := own_ext ho6 hE132
    replace ho7 := own_ext ho7 hE132
    replace hos8 := hos8.ext hE132
    replace ho8 := own_ext ho8 hE132
    replace ho11 := own_ext ho11 hE132
    replace hos12 := hos12.ext hE132
    replace ho12 := own_ext ho12 hE132
    replace ho16 := own_ext ho16 hE132
    replace hos17 := hos17.ext hE132
    replace ho17 := own_ext ho17 hE132
    replace ho26 := own_ext ho26 hE132
    replace ho29 := own_ext ho29 hE132
    replace ho32 := own_ext ho32 hE132
    replace ho35 := own_ext ho35 hE132
    replace ho43 := own_ext ho43 hE132
    replace ho44_0 := own_ext ho44_0 hE132
    replace hrc46 := hrc46.ext hE132
    replace ho47 := own_ext ho47 hE132
    replace hos47 := hos47.ext hE132
    replace hrc49 := hrc49.ext hE132
    replace ho50 := own_ext ho50 hE132
    replace hos50 := hos50.ext hE132
    replace hrc52 := hrc52.ext hE132
    replace ho53 := own_ext ho53 hE132
    replace ho98 := own_ext ho98 hE132
    replace hrc99 := hrc99.ext hE132
    replace ho102 := own_ext ho102 hE132
    replace ho103 := own_ext ho103 hE132
    replace hos104 := hos104.ext hE132
    replace ho104 := own_ext ho104 hE132
    replace ho109 := own_ext ho109 hE132
    replace hos110 := hos110.ext hE132
    replace ho110 := own_ext ho110 hE132
    replace ho123 := own_ext ho123 hE132
    replace ho126 := own_ext ho126 hE132
    replace ho129 := own_ext ho129 hE132
    replace hsz := Nat.le_trans hsz hE132.size
    replace ho132 : w132.ownsRow w130.heap.size 9 1 (.slice (some ⟨b132, 0, none⟩) 7 7) 7 (((List.replicate 7 [] : List Sg)).map vstr) := ho132
    refine l_q (q_build (v := .agg ⟨[.slice (some ⟨b132, 0, none⟩) 7 7]⟩) (fun w => by kernel_rfl) rfl) ?_
    refine l_o (o_call Try.call19 rfl (checkCode_ret _ _ (List.replicate 7 [] : List Sg) _ (Row.of_owns ho132) (by decide) (by decide)) rfl ?_)
    rintro _ w133 ⟨rfl, hE133⟩
    replace hB := below_ext hB hE133 hsz
    replace hrc2 := hrc2.ext hE133
    replace ho3 := own_ext ho3 hE133
    replace hos3 := hos3.ext hE133
    replace ho5 := own_ext ho5 hE133
    replace ho6 := own_ext ho6 hE133
    replace ho7 := own_ext ho7 hE133
    replace hos8 := hos8.ext hE133
    replace ho8 := own_ext ho8 hE133
    replace ho11 := own_ext ho11 hE133
    replace hos12 := hos12.ext hE133
    replace ho12 := own_ext ho12 hE133
    replace ho16 := own_ext ho16 hE133
    replace hos17 := hos17.ext hE133
    replace ho17 := own_ext ho17 hE133
    replace ho26 := own_ext ho26 hE133
    replace ho29 := own_ext ho29 hE133
    replace ho32 := own_ext ho32 hE133
    replace ho35 := own_ext ho35 hE133
    replace ho43 := own_ext ho43 hE133
    replace ho44_0 := own_ext ho44_0 hE133
    replace hrc46 := hrc46.ext hE133
    replace ho47 := own_ext ho47 hE133
    replace hos47 := hos47.ext hE133
    replace hrc49 := hrc49.ext hE133
    replace ho50 := own_ext ho50 hE133
    replace hos50 := hos50.ext hE133
    replace hrc52 := hrc52.ext hE133
    replace ho53 := own_ext ho53 hE133
    replace ho98 := own_ext ho98 hE133
    replace hrc99 := hrc99.ext hE133
    replace ho102 := own_ext ho102 hE133
    replace ho103 := own_ext ho103 hE133
    replace hos104 := hos104.ext hE133
    replace ho104 := own_ext ho104 hE133
    replace ho109 := own_ext ho109 hE133
    replace hos110 := hos110.ext hE133
    replace ho110 := own_ext ho110 hE133
    replace ho123 := own_ext ho123 hE133
    replace ho126 := own_ext ho126 hE133
    replace ho129 := own_ext ho129 hE133
    replace ho132 := own_ext ho132 hE133
    replace hsz := Nat.le_trans hsz hE133.size
    refine l_q (q_eql rfl rfl rfl) ?_
    refine l_q (q_pick_t (v := .bool _) rfl rfl rfl) ?_
    refine l_q (q_move (v := .bool _) rfl rfl) ?_
    have hk134 : (decide ((fault (List.replicate 7 [] : List Sg)) = 3)) = true := by decide +kernel
    refine l_part 215 rfl (fun _ => ?_) (fun hx => absurd (hk134.symm.trans hx) (by decide))
    refine l_q (q_build (v := .agg ⟨[.slice none 0 0]⟩) (fun w => by kernel_rfl) rfl) ?_
    refine l_o (o_call Try.call19 rfl (checkCode_ret none 0 [] _ (Row.nil _ _ _ _) (by decide) (by simp)) rfl ?_)
    rintro _ w135 ⟨rfl, hE135⟩
    replace hB := below_ext hB hE135 hsz
    replace hrc2 := hrc2.ext hE135
    replace ho3 := own_ext ho3 hE135
    replace hos3 := hos3.ext hE135
    replace ho5 := own_ext ho5 hE135
    replace ho6 := own_ext ho6 hE135
    replace ho7 := own_ext ho7 hE135
    replace hos8 := hos8.ext hE135
    replace ho8 := own_ext ho8 hE135
    replace ho11 := own_ext ho11 hE135
    replace hos12 := hos12.ext hE135
    replace ho12 := own_ext ho12 hE135
    replace ho16 := own_ext ho16 hE135
    replace hos17 := hos17.ext hE135
    replace ho17 := own_ext ho17 hE135
    replace ho26 := own_ext ho26 hE135
    replace ho29 := own_ext ho29 hE135
    replace ho32 := own_ext ho32 hE135
    replace ho35 := own_ext ho35 hE135
    replace ho43 := own_ext ho43 hE135
    replace ho44_0 := own_ext ho44_0 hE135
    replace hrc46 := hrc46.ext hE135
    replace ho47 := own_ext ho47 hE135
    replace hos47 := hos47.ext hE135
    replace hrc49 := hrc49.ext hE135
    replace ho50 := own_ext ho50 hE135
    replace hos50 := hos50.ext hE135
    replace hrc52 := hrc52.ext hE135
    replace ho53 := own_ext ho53 hE135
    replace ho98 := own_ext ho98 hE135
    replace hrc99 := hrc99.ext hE135
    replace ho102 := own_ext ho102 hE135
    replace ho103 := own_ext ho103 hE135
    replace hos104 := hos104.ext hE135
    replace ho104 := own_ext ho104 hE135
    replace ho109 := own_ext ho109 hE135
    replace hos110 := hos110.ext hE135
    replace ho110 := own_ext ho110 hE135
    replace ho123 := own_ext ho123 hE135
    replace ho126 := own_ext ho126 hE135
    replace ho129 := own_ext ho129 hE135
    replace ho132 := own_ext ho132 hE135
    replace hsz := Nat.le_trans hsz hE135.size
    refine l_q (q_eql rfl rfl rfl) ?_
    refine l_q (q_pick_t (v := .bool _) rfl rfl rfl) ?_
    refine l_q (q_move (v := .bool _) rfl rfl) ?_
    have hk136 : (decide ((fault []) = 1)) = true := by decide +kernel
    refine l_part 220 rfl (fun _ => ?_) (fun hx => absurd (hk136.symm.trans hx) (by decide))
    refine l_o (o_call Try.call18 rfl (awake_ret _) rfl ?_)
    rintro _ w137 ⟨rfl, hE137⟩
    replace hB := below_ext hB hE137 hsz
    replace hrc2 := hrc2.ext hE137
    replace ho3 := own_ext ho3 hE137
    replace hos3 := hos3.ext hE137
    replace ho5 := own_ext ho5 hE137
    replace ho6 := own_ext ho6 hE137
    replace ho7 := own_ext ho7 hE137
    replace hos8 := hos8.ext hE137
    replace ho8 := own_ext ho8 hE137
    replace ho11 := own_ext ho11 hE137
    replace hos12 := hos12.ext hE137
    replace ho12 := own_ext ho12 hE137
    replace ho16 := own_ext ho16 hE137
    replace hos17 := hos17.ext hE137
    replace ho17 := own_ext ho17 hE137
    replace ho26 := own_ext ho26 hE137
    replace ho29 := own_ext ho29 hE137
    replace ho32 := own_ext ho32 hE137
    replace ho35 := own_ext ho35 hE137
    replace ho43 := own_ext ho43 hE137
    replace ho44_0 := own_ext ho44_0 hE137
    replace hrc46 := hrc46.ext hE137
    replace ho47 := own_ext ho47 hE137
    replace hos47 := hos47.ext hE137
    replace hrc49 := hrc49.ext hE137
    replace ho50 := own_ext ho50 hE137
    replace hos50 := hos50.ext hE137
    replace hrc52 := hrc52.ext hE137
    replace ho53 := own_ext ho53 hE137
    replace ho98 := own_ext ho98 hE137
    replace hrc99 := hrc99.ext hE137
    replace ho102 := own_ext ho102 hE137
    replace ho103 := own_ext ho103 hE137
    replace hos104 := hos104.ext hE137
    replace ho104 := own_ext ho104 hE137
    replace ho109 := own_ext ho109 hE137
    replace hos110 := hos110.ext hE137
    replace ho110 := own_ext ho110 hE137
    replace ho123 := own_ext ho123 hE137
    replace ho126 := own_ext ho126 hE137
    replace ho129 := own_ext ho129 hE137
    replace ho132 := own_ext ho132 hE137
    replace hsz := Nat.le_trans hsz hE137.size
    refine l_q (q_pick_t (v := .bool _) rfl rfl rfl) ?_
    refine l_q (q_assign (v := .bool _) rfl rfl) ?_
    refine l_nil ?_
    refine r_forget [(0, .bool _)] ⟨rfl, trivial⟩ (fun e138 => ?_)
    refine r_ret_ (vs := [.bool _]) rfl Try.func14 rfl (.nil _) ⟨rfl, trivial⟩ ?_
    exact ⟨rfl, Ext.of_below hB⟩
end Go.Proofs.Ytkcbgpilfegofaa
