/- Contracts. -/
import Derived.Test.YtekkdhpgcilpdaaGreatM27
set_option linter.unusedVariables false
set_option linter.unusedSimpArgs false
namespace Go.Proofs.YtekkdhpgcilpdaaGreat
open Go Go.RowKit Go.Gv Go.Fl


set_option maxHeartbeats 2000000 in
theorem maskNames_ret (w : World) : Ret Tryz.prog 14 [] w (fun v w' => v = .bool true ∧ Ext w w') := by
 have hB := Below.refl w.heap.size w
 have hsz : w.heap.size ≤ w.heap.size := Nat.le_refl _
 refine ret_of_runs (args := []) Tryz.func14 rfl (Nat.le_of_ble_eq_true rfl) (by kernel_rfl) (r_seq (r_region' (l_q (qab rfl rfl) (l_nil (r_seq (r_region' (l_o (o_call Tryz.call49 rfl (line7_ret none 0 [] _ (Row.nil _ _ _ _) (by decide)) rfl ?_))))))))
 rintro _ w1 ⟨B21, ka1, kc1, sa1, sc1, ja1, jc1, x11, y11, x21, y21, ra1, rq1, rfl, hln1, hE1⟩
 have hszw1 : w.heap.size ≤ w.heap.size := hsz
 have hszi1 := hE1.size
 replace hB := below_ext hB hE1 hsz
 replace hsz := Nat.le_trans hsz hE1.size
 have hszL1 : w1.heap.size ≤ w1.heap.size := Nat.le_refl _
 have hv2 := own6_ret ka1 kc1 cod3 1 sa1 sc1 [5, -1] ja1 jc1 (lineS x11 y11 x21 y21) ra1 rq1 (lineR ++ []) 2 w1 hln1.at (big_lit (J := lineJ) rfl ⟨by decide, cod3_le⟩ (by decide) ⟨by decide, by decide⟩ ⟨by decide, by decide⟩ (by decide))
 rw [show lg cod3 1 [5, -1] (lineS x11 y11 x21 y21) (lineR ++ []) = lineL [] from rfl, own_line2] at hv2
 refine l_o (o_call Tryz.call21 rfl (hv2) rfl ?_)
 rintro _ w3 ⟨a3_0, c3_0, rfl, hr3_0, hE3⟩
 replace hB := below_ext hB hE3 hsz
 replace hszL1 := Nat.le_trans hszL1 hE3.size
 replace hsz := Nat.le_trans hsz hE3.size
 refine l_q (q_move (v := .tuple _) rfl rfl) (l_q (q_extract (vs := [_, _]) (v := .slice _ _ _) rfl rfl rfl) (l_q (q_extract (vs := [_, _]) (v := .int _ _) rfl rfl rfl) (l_q (qas rfl rfl) (l_q (qai rfl rfl) (l_nil (r_seq (r_region' (l_o (o_call Tryz.call49 rfl (line7_ret none 0 [] _ (Row.nil _ _ _ _) (by decide)) rfl ?_)))))))))
 rintro _ w4 ⟨B24, ka4, kc4, sa4, sc4, ja4, jc4, x14, y14, x24, y24, ra4, rq4, rfl, hln4, hE4⟩
 have hszk1_4 := hszL1
 have hszw4 : w.heap.size ≤ w3.heap.size := hsz
 have hszi4 := hE4.size
 replace hB := below_ext hB hE4 hsz
 replace hszL1 := Nat.le_trans hszL1 hE4.size
 replace hsz := Nat.le_trans hsz hE4.size
 have hszL4 : w4.heap.size ≤ w4.heap.size := Nat.le_refl _
 have hv5 := mHeard_ret ka4 kc4 cod3 1 sa4 sc4 [5, -1] ja4 jc4 (lineS x14 y14 x24 y24) ra4 rq4 (lineR ++ []) 6 w4 hln4.at (big_lit (J := lineJ) rfl ⟨by decide, cod3_le⟩ (by decide) ⟨by decide, by decide⟩ ⟨by decide, by decide⟩ (by decide))
 rw [show lg cod3 1 [5, -1] (lineS x14 y14 x24 y24) (lineR ++ []) = lineL [] from rfl, heard_line6] at hv5
 refine l_o (o_call Tryz.call26 rfl (hv5) rfl ?_)
 rintro _ w6 ⟨ta6, tc6, D6, rfl, hrt6, hri6, hD6, hE6⟩
 replace hB := below_ext hB hE6 hsz
 replace hszL1 := Nat.le_trans hszL1 hE6.size
 replace hszL4 := Nat.le_trans hszL4 hE6.size
 replace hsz := Nat.le_trans hsz hE6.size
 refine l_q (q_move (v := .tuple _) rfl rfl) (l_q (q_extract (vs := [_, _]) (v := .slice _ _ _) rfl rfl rfl) (l_q (q_extract (vs := [_, _]) (v := .int _ _) rfl rfl rfl) (l_q (qas rfl rfl) (l_q (qai rfl rfl) (l_nil (r_forget [(1, .slice _ _ _), (2, .int _ _), (3, .slice _ _ _), (4, .int _ _)] ⟨rfl, rfl, rfl, rfl, trivial⟩ (fun e7 => (r_seq (r_region' (l_o (o_call Tryz.call49 rfl (line7_ret none 0 [] _ (Row.nil _ _ _ _) (by decide)) rfl ?_)))))))))))
 rintro _ w8 ⟨B28, ka8, kc8, sa8, sc8, ja8, jc8, x18, y18, x28, y28, ra8, rq8, rfl, hln8, hE8⟩
 have hszk1_8 := hszL1
 have hszk4_8 := hszL4
 have hszw8 : w.heap.size ≤ w6.heap.size := hsz
 have hszi8 := hE8.size
 replace hB := below_ext hB hE8 hsz
 replace hszL1 := Nat.le_trans hszL1 hE8.size
 replace hszL4 := Nat.le_trans hszL4 hE8.size
 replace hsz := Nat.le_trans hsz hE8.size
 have hszL8 : w8.heap.size ≤ w8.heap.size := Nat.le_refl _
 have hv9 := mMasked_ret ka8 kc8 cod3 1 sa8 sc8 [5, -1] ja8 jc8 (lineS x18 y18 x28 y28) ra8 rq8 (lineR ++ []) 1 w8 hln8.at (big_lit (J := lineJ) rfl ⟨by decide, cod3_le⟩ (by decide) ⟨by decide, by decide⟩ ⟨by decide, by decide⟩ (by decide))
 rw [show lg cod3 1 [5, -1] (lineS x18 y18 x28 y28) (lineR ++ []) = lineL [] from rfl, masked_line1] at hv9
 refine l_o (o_call Tryz.call27 rfl (hv9) rfl ?_)
 rintro _ w10 ⟨a10_0, c10_0, rfl, hr10_0, hE10⟩
 replace hB := below_ext hB hE10 hsz
 replace hszL1 := Nat.le_trans hszL1 hE10.size
 replace hszL4 := Nat.le_trans hszL4 hE10.size
 replace hszL8 := Nat.le_trans hszL8 hE10.size
 replace hsz := Nat.le_trans hsz hE10.size
 refine l_q (q_move (v := .tuple _) rfl rfl) (l_q (q_extract (vs := [_, _]) (v := .slice _ _ _) rfl rfl rfl) (l_q (q_extract (vs := [_, _]) (v := .int _ _) rfl rfl rfl) (l_q (qas rfl rfl) (l_q (qai rfl rfl) (l_nil (r_seq (r_region' (l_o (o_call Tryz.call49 rfl (line7_ret none 0 [] _ (Row.nil _ _ _ _) (by decide)) rfl ?_)))))))))
 rintro _ w11 ⟨B211, ka11, kc11, sa11, sc11, ja11, jc11, x111, y111, x211, y211, ra11, rq11, rfl, hln11, hE11⟩
 have hszk1_11 := hszL1
 have hszk4_11 := hszL4
 have hszk8_11 := hszL8
 have hszw11 : w.heap.size ≤ w10.heap.size := hsz
 have hszi11 := hE11.size
 replace hB := below_ext hB hE11 hsz
 replace hszL1 := Nat.le_trans hszL1 hE11.size
 replace hszL4 := Nat.le_trans hszL4 hE11.size
 replace hszL8 := Nat.le_trans hszL8 hE11.size
 replace hr10_0 := hr10_0.ext hE11
 replace hsz := Nat.le_trans hsz hE11.size
 have hszL11 : w11.heap.size ≤ w11.heap.size := Nat.le_refl _
 have hv12 := leave6_ret ka11 kc11 cod3 1 sa11 sc11 [5, -1] ja11 jc11 (lineS x111 y111 x211 y211) ra11 rq11 (lineR ++ [])  w11 hln11.at (big_lit (J := lineJ) rfl ⟨by decide, cod3_le⟩ (by decide) ⟨by decide, by decide⟩ ⟨by decide, by decide⟩ (by decide))
 rw [show lg cod3 1 [5, -1] (lineS x111 y111 x211 y211) (lineR ++ []) = lineL [] from rfl, leave_line0] at hv12
 refine l_o (o_call Tryz.call32 rfl (hv12) rfl ?_)
 rintro _ w13 ⟨a13_0, c13_0, rfl, hr13_0, hE13⟩
 replace hB := below_ext hB hE13 hsz
 replace hszL1 := Nat.le_trans hszL1 hE13.size
 replace hszL4 := Nat.le_trans hszL4 hE13.size
 replace hszL8 := Nat.le_trans hszL8 hE13.size
 replace hr10_0 := hr10_0.ext hE13
 replace hszL11 := Nat.le_trans hszL11 hE13.size
 replace hsz := Nat.le_trans hsz hE13.size
 refine l_q (q_move (v := .tuple _) rfl rfl) (l_q (q_extract (vs := [_, _]) (v := .slice _ _ _) rfl rfl rfl) (l_q (q_extract (vs := [_, _]) (v := .int _ _) rfl rfl rfl) (l_q (qas rfl rfl) (l_q (qai rfl rfl) (l_nil (r_forget [(1, .slice _ _ _), (2, .int _ _), (3, .slice _ _ _), (4, .int _ _), (5, .slice _ _ _), (6, .int _ _), (7, .slice _ _ _), (8, .int _ _)] ⟨rfl, rfl, rfl, rfl, rfl, rfl, rfl, rfl, trivial⟩ (fun e14 => (r_seq (r_seq ?_)))))))))
 have hD0 : D6.length = 0 := by have h := congrArg List.length hD6; rw [List.length_map] at h; exact h
 refine r_region' (l_q (qmi rfl rfl) (l_q (q_neq rfl rfl rfl) (l_q (qmb rfl rfl) ?_)))
 have hk15 : (!decide (0 = 0)) = false := by decide
 refine l_part 41 rfl (fun hx => absurd (hk15.symm.trans hx) (by decide)) (fun _ => (l_q (qms rfl rfl) (l_q (q_len rfl Tryz.underlying25 rfl rfl) (l_q (q_neq rfl rfl rfl) (l_q (q_pick_f (v := .bool _) rfl rfl rfl) (l_q (qmb rfl rfl) ?_))))))
 have hk16 : (!decide (((([] : List Int)).length : Int) = 0)) = false := by decide
 refine l_part 46 rfl (fun hx => absurd (hk16.symm.trans hx) (by decide)) (fun _ => (l_q (qmi rfl rfl) (l_q (q_neq rfl rfl rfl) (l_q (q_pick_f (v := .bool _) rfl rfl rfl) (l_q (qmb rfl rfl) ?_)))))
 have hk17 : (!decide (0 = 0)) = false := by decide
 refine l_part 50 rfl (fun hx => absurd (hk17.symm.trans hx) (by decide)) (fun _ => (l_q (qms rfl rfl) (l_q (q_len rfl Tryz.underlying47 rfl rfl) (l_q (q_neq rfl rfl rfl) (l_q (q_pick_f (v := .bool _) rfl rfl rfl) (l_q (qmb rfl rfl) ?_))))))
 have hk18 : (!decide ((D6.length : Int) = 0)) = false := by rw [decide_eq_true (by omega)]; rfl
 refine l_part 55 rfl (fun hx => absurd (hk18.symm.trans hx) (by decide)) (fun _ => (l_q (qmi rfl rfl) (l_q (q_neq rfl rfl rfl) (l_q (q_pick_f (v := .bool _) rfl rfl rfl) (l_q (qmb rfl rfl) ?_)))))
 have hk19 : (!decide (0 = 0)) = false := by decide
 refine l_part 59 rfl (fun hx => absurd (hk19.symm.trans hx) (by decide)) (fun _ => (l_q (qms rfl rfl) (l_o (o_buildSlice (el := 3) (cs := [vint 1]) Tryz.underlying25 el3 (by decide) (by kernel_rfl) rfl (by decide) rfl ?_))))
 intro b20 w20 hzl20 hzr20 _ hb20 hE20 ho20
 have hbs_b20 : w.heap.size ≤ b20 := Nat.le_trans hsz hzl20
 replace hB := below_ext hB hE20 hsz
 replace hszL1 := Nat.le_trans hszL1 hE20.size
 replace hszL4 := Nat.le_trans hszL4 hE20.size
 replace hszL8 := Nat.le_trans hszL8 hE20.size
 replace hr10_0 := hr10_0.ext hE20
 replace hszL11 := Nat.le_trans hszL11 hE20.size
 replace hsz := Nat.le_trans hsz hE20.size
 refine l_o (o_call Tryz.call24 rfl (same_ret _ _ [1] _ _ [1] _ hr10_0 (by decide) (Row.of_owns ho20) (by decide)) rfl ?_)
 rintro _ w21 ⟨rfl, hE21⟩
 replace hB := below_ext hB hE21 hsz
 replace hszL1 := Nat.le_trans hszL1 hE21.size
 replace hszL4 := Nat.le_trans hszL4 hE21.size
 replace hszL8 := Nat.le_trans hszL8 hE21.size
 replace hszL11 := Nat.le_trans hszL11 hE21.size
 replace hsz := Nat.le_trans hsz hE21.size
 refine l_q (q_not rfl rfl) (l_q (q_pick_f (v := .bool _) rfl rfl rfl) (l_q (qmb rfl rfl) ?_))
 have hk22 : (!(decide ([1] = [1]))) = false := by decide
 refine l_part 65 rfl (fun hx => absurd (hk22.symm.trans hx) (by decide)) (fun _ => (l_q (qmi rfl rfl) (l_q (q_neq rfl rfl rfl) (l_q (q_pick_f (v := .bool _) rfl rfl rfl) (l_q (qmb rfl rfl) ?_)))))
 have hk23 : (!decide (0 = 0)) = false := by decide
 refine l_part 69 rfl (fun hx => absurd (hk23.symm.trans hx) (by decide)) (fun _ => (l_q (qms rfl rfl) (l_q (q_len rfl Tryz.underlying25 rfl rfl) (l_q (q_neq rfl rfl rfl) (l_q (q_pick_f (v := .bool _) rfl rfl rfl) (l_q (qmb rfl rfl) ?_))))))
 have hk24 : (!decide (((([] : List Int)).length : Int) = 0)) = false := by decide
 refine l_part 74 rfl (fun hx => absurd (hk24.symm.trans hx) (by decide)) (fun _ => (l_o (o_call Tryz.call49 rfl (line7_ret none 0 [] _ (Row.nil _ _ _ _) (by decide)) rfl ?_)))
 rintro _ w25 ⟨B225, ka25, kc25, sa25, sc25, ja25, jc25, x125, y125, x225, y225, ra25, rq25, rfl, hln25, hE25⟩
 have hszk1_25 := hszL1
 have hszk4_25 := hszL4
 have hszk8_25 := hszL8
 have hszk11_25 := hszL11
 have hszw25 : w.heap.size ≤ w21.heap.size := hsz
 have hszi25 := hE25.size
 replace hB := below_ext hB hE25 hsz
 replace hszL1 := Nat.le_trans hszL1 hE25.size
 replace hszL4 := Nat.le_trans hszL4 hE25.size
 replace hszL8 := Nat.le_trans hszL8 hE25.size
 replace hszL11 := Nat.le_trans hszL11 hE25.size
 replace hsz := Nat.le_trans hsz hE25.size
 have hszL25 : w25.heap.size ≤ w25.heap.size := Nat.le_refl _
 refine l_o (o_buildSlice (el := 3) (cs := [vint 0, vint 1, vint (-1)]) Tryz.underlying25 el3 (by decide) (by kernel_rfl) rfl (by decide) rfl ?_)
 intro b26 w26 hzl26 hzr26 _ hb26 hE26 ho26
 have hbs_b26 : w.heap.size ≤ b26 := Nat.le_trans hsz hzl26
 replace hB := below_ext hB hE26 hsz
 replace hszL1 := Nat.le_trans hszL1 hE26.size
 replace hszL4 := Nat.le_trans hszL4 hE26.size
 replace hszL8 := Nat.le_trans hszL8 hE26.size
 replace hszL11 := Nat.le_trans hszL11 hE26.size
 replace hln25 := hln25.ext hE26
 replace hszL25 := Nat.le_trans hszL25 hE26.size
 replace hsz := Nat.le_trans hsz hE26.size
 have hv27 := prove6_ret ka25 kc25 cod3 1 sa25 sc25 [5, -1] ja25 jc25 (lineS x125 y125 x225 y225) ra25 rq25 (lineR ++ []) _ _ [0, 1, (-1)] w26 hln25.at (big_lit (J := lineJ) rfl ⟨by decide, cod3_le⟩ (by decide) ⟨by decide, by decide⟩ ⟨by decide, by decide⟩ (by decide)) (Row.of_owns ho26) (by decide)
 rw [show lg cod3 1 [5, -1] (lineS x125 y125 x225 y225) (lineR ++ []) = lineL [] from rfl, prov_line1] at hv27
 refine l_o (o_call Tryz.call45 rfl (hv27) rfl ?_)
 rintro _ w28 ⟨rfl, hE28⟩
 replace hB := below_ext hB hE28 hsz
 replace hszL1 := Nat.le_trans hszL1 hE28.size
 replace hszL4 := Nat.le_trans hszL4 hE28.size
 replace hszL8 := Nat.le_trans hszL8 hE28.size
 replace hszL11 := Nat.le_trans hszL11 hE28.size
 replace hszL25 := Nat.le_trans hszL25 hE28.size
 replace hsz := Nat.le_trans hsz hE28.size
 refine l_q (q_not rfl rfl) (l_q (q_pick_f (v := .bool _) rfl rfl rfl) (l_q (qmb rfl rfl) (l_o (o_call Tryz.call49 rfl (line7_ret none 0 [] _ (Row.nil _ _ _ _) (by decide)) rfl ?_))))
 rintro _ w29 ⟨B229, ka29, kc29, sa29, sc29, ja29, jc29, x129, y129, x229, y229, ra29, rq29, rfl, hln29, hE29⟩
 have hszk1_29 := hszL1
 have hszk4_29 := hszL4
 have hszk8_29 := hszL8
 have hszk11_29 := hszL11
 have hszk25_29 := hszL25
 have hszw29 : w.heap.size ≤ w28.heap.size := hsz
 have hszi29 := hE29.size
 replace hB := below_ext hB hE29 hsz
 replace hszL1 := Nat.le_trans hszL1 hE29.size
 replace hszL4 := Nat.le_trans hszL4 hE29.size
 replace hszL8 := Nat.le_trans hszL8 hE29.size
 replace hszL11 := Nat.le_trans hszL11 hE29.size
 replace hszL25 := Nat.le_trans hszL25 hE29.size
 replace hsz := Nat.le_trans hsz hE29.size
 have hszL29 : w29.heap.size ≤ w29.heap.size := Nat.le_refl _
 refine l_o (o_buildSlice (el := 3) (cs := [vint 0, vint (-1), vint (-1)]) Tryz.underlying25 el3 (by decide) (by kernel_rfl) rfl (by decide) rfl ?_)
 intro b30 w30 hzl30 hzr30 _ hb30 hE30 ho30
 have hbs_b30 : w.heap.size ≤ b30 := Nat.le_trans hsz hzl30
 replace hB := below_ext hB hE30 hsz
 replace hszL1 := Nat.le_trans hszL1 hE30.size
 replace hszL4 := Nat.le_trans hszL4 hE30.size
 replace hszL8 := Nat.le_trans hszL8 hE30.size
 replace hszL11 := Nat.le_trans hszL11 hE30.size
 replace hszL25 := Nat.le_trans hszL25 hE30.size
 replace hln29 := hln29.ext hE30
 replace hszL29 := Nat.le_trans hszL29 hE30.size
 replace hsz := Nat.le_trans hsz hE30.size
 have hv31 := prove6_ret ka29 kc29 cod3 1 sa29 sc29 [5, -1] ja29 jc29 (lineS x129 y129 x229 y229) ra29 rq29 (lineR ++ []) _ _ [0, (-1), (-1)] w30 hln29.at (big_lit (J := lineJ) rfl ⟨by decide, cod3_le⟩ (by decide) ⟨by decide, by decide⟩ ⟨by decide, by decide⟩ (by decide)) (Row.of_owns ho30) (by decide)
 rw [show lg cod3 1 [5, -1] (lineS x129 y129 x229 y229) (lineR ++ []) = lineL [] from rfl, prov_line2] at hv31
 refine l_o (o_call Tryz.call45 rfl (hv31) rfl ?_)
 rintro _ w32 ⟨rfl, hE32⟩
 replace hB := below_ext hB hE32 hsz
 replace hszL1 := Nat.le_trans hszL1 hE32.size
 replace hszL4 := Nat.le_trans hszL4 hE32.size
 replace hszL8 := Nat.le_trans hszL8 hE32.size
 replace hszL11 := Nat.le_trans hszL11 hE32.size
 replace hszL25 := Nat.le_trans hszL25 hE32.size
 replace hszL29 := Nat.le_trans hszL29 hE32.size
 replace hsz := Nat.le_trans hsz hE32.size
 refine l_q (q_not rfl rfl) (l_q (q_pick_f (v := .bool _) rfl rfl rfl) (l_q (qmb rfl rfl) (l_o (o_call Tryz.call49 rfl (line7_ret none 0 [] _ (Row.nil _ _ _ _) (by decide)) rfl ?_))))
 rintro _ w33 ⟨B233, ka33, kc33, sa33, sc33, ja33, jc33, x133, y133, x233, y233, ra33, rq33, rfl, hln33, hE33⟩
 have hszk1_33 := hszL1
 have hszk4_33 := hszL4
 have hszk8_33 := hszL8
 have hszk11_33 := hszL11
 have hszk25_33 := hszL25
 have hszk29_33 := hszL29
 have hszw33 : w.heap.size ≤ w32.heap.size := hsz
 have hszi33 := hE33.size
 replace hB := below_ext hB hE33 hsz
 replace hszL1 := Nat.le_trans hszL1 hE33.size
 replace hszL4 := Nat.le_trans hszL4 hE33.size
 replace hszL8 := Nat.le_trans hszL8 hE33.size
 replace hszL11 := Nat.le_trans hszL11 hE33.size
 replace hszL25 := Nat.le_trans hszL25 hE33.size
 replace hszL29 := Nat.le_trans hszL29 hE33.size
 replace hsz := Nat.le_trans hsz hE33.size
 have hszL33 : w33.heap.size ≤ w33.heap.size := Nat.le_refl _
 refine l_o (o_buildSlice (el := 3) (cs := [vint (-1), vint 1, vint (-1)]) Tryz.underlying25 el3 (by decide) (by kernel_rfl) rfl (by decide) rfl ?_)
 intro b34 w34 hzl34 hzr34 _ hb34 hE34 ho34
 have hbs_b34 : w.heap.size ≤ b34 := Nat.le_trans hsz hzl34
 replace hB := below_ext hB hE34 hsz
 replace hszL1 := Nat.le_trans hszL1 hE34.size
 replace hszL4 := Nat.le_trans hszL4 hE34.size
 replace hszL8 := Nat.le_trans hszL8 hE34.size
 replace hszL11 := Nat.le_trans hszL11 hE34.size
 replace hszL25 := Nat.le_trans hszL25 hE34.size
 replace hszL29 := Nat.le_trans hszL29 hE34.size
 replace hln33 := hln33.ext hE34
 replace hszL33 := Nat.le_trans hszL33 hE34.size
 replace hsz := Nat.le_trans hsz hE34.size
 have hv35 := prove6_ret ka33 kc33 cod3 1 sa33 sc33 [5, -1] ja33 jc33 (lineS x133 y133 x233 y233) ra33 rq33 (lineR ++ []) _ _ [(-1), 1, (-1)] w34 hln33.at (big_lit (J := lineJ) rfl ⟨by decide, cod3_le⟩ (by decide) ⟨by decide, by decide⟩ ⟨by decide, by decide⟩ (by decide)) (Row.of_owns ho34) (by decide)
 rw [show lg cod3 1 [5, -1] (lineS x133 y133 x233 y233) (lineR ++ []) = lineL [] from rfl, prov_line3] at hv35
 refine l_o (o_call Tryz.call45 rfl (hv35) rfl ?_)
 rintro _ w36 ⟨rfl, hE36⟩
 replace hB := below_ext hB hE36 hsz
 replace hszL1 := Nat.le_trans hszL1 hE36.size
 replace hszL4 := Nat.le_trans hszL4 hE36.size
 replace hszL8 := Nat.le_trans hszL8 hE36.size
 replace hszL11 := Nat.le_trans hszL11 hE36.size
 replace hszL25 := Nat.le_trans hszL25 hE36.size
 replace hszL29 := Nat.le_trans hszL29 hE36.size
 replace hszL33 := Nat.le_trans hszL33 hE36.size
 replace hsz := Nat.le_trans hsz hE36.size
 refine l_q (q_pick_f (v := .bool _) rfl rfl rfl) (l_q (qmb rfl rfl) (l_o (o_call Tryz.call49 rfl (line7_ret none 0 [] _ (Row.nil _ _ _ _) (by decide)) rfl ?_)))
 rintro _ w37 ⟨B237, ka37, kc37, sa37, sc37, ja37, jc37, x137, y137, x237, y237, ra37, rq37, rfl, hln37, hE37⟩
 have hszk1_37 := hszL1
 have hszk4_37 := hszL4
 have hszk8_37 := hszL8
 have hszk11_37 := hszL11
 have hszk25_37 := hszL25
 have hszk29_37 := hszL29
 have hszk33_37 := hszL33
 have hszw37 : w.heap.size ≤ w36.heap.size := hsz
 have hszi37 := hE37.size
 replace hB := below_ext hB hE37 hsz
 replace hszL1 := Nat.le_trans hszL1 hE37.size
 replace hszL4 := Nat.le_trans hszL4 hE37.size
 replace hszL8 := Nat.le_trans hszL8 hE37.size
 replace hszL11 := Nat.le_trans hszL11 hE37.size
 replace hszL25 := Nat.le_trans hszL25 hE37.size
 replace hszL29 := Nat.le_trans hszL29 hE37.size
 replace hszL33 := Nat.le_trans hszL33 hE37.size
 replace hsz := Nat.le_trans hsz hE37.size
 have hszL37 : w37.heap.size ≤ w37.heap.size := Nat.le_refl _
 refine l_o (o_buildSlice (el := 3) (cs := [vint 0, vint 1]) Tryz.underlying25 el3 (by decide) (by kernel_rfl) rfl (by decide) rfl ?_)
 intro b38 w38 hzl38 hzr38 _ hb38 hE38 ho38
 have hbs_b38 : w.heap.size ≤ b38 := Nat.le_trans hsz hzl38
 replace hB := below_ext hB hE38 hsz
 replace hszL1 := Nat.le_trans hszL1 hE38.size
 replace hszL4 := Nat.le_trans hszL4 hE38.size
 replace hszL8 := Nat.le_trans hszL8 hE38.size
 replace hszL11 := Nat.le_trans hszL11 hE38.size
 replace hszL25 := Nat.le_trans hszL25 hE38.size
 replace hszL29 := Nat.le_trans hszL29 hE38.size
 replace hszL33 := Nat.le_trans hszL33 hE38.size
 replace hln37 := hln37.ext hE38
 replace hszL37 := Nat.le_trans hszL37 hE38.size
 replace hsz := Nat.le_trans hsz hE38.size
 have hv39 := prove6_ret ka37 kc37 cod3 1 sa37 sc37 [5, -1] ja37 jc37 (lineS x137 y137 x237 y237) ra37 rq37 (lineR ++ []) _ _ [0, 1] w38 hln37.at (big_lit (J := lineJ) rfl ⟨by decide, cod3_le⟩ (by decide) ⟨by decide, by decide⟩ ⟨by decide, by decide⟩ (by decide)) (Row.of_owns ho38) (by decide)
 rw [show lg cod3 1 [5, -1] (lineS x137 y137 x237 y237) (lineR ++ []) = lineL [] from rfl, prov_line4] at hv39
 refine l_o (o_call Tryz.call45 rfl (hv39) rfl ?_)
 rintro _ w40 ⟨rfl, hE40⟩
 replace hB := below_ext hB hE40 hsz
 replace hszL1 := Nat.le_trans hszL1 hE40.size
 replace hszL4 := Nat.le_trans hszL4 hE40.size
 replace hszL8 := Nat.le_trans hszL8 hE40.size
 replace hszL11 := Nat.le_trans hszL11 hE40.size
 replace hszL25 := Nat.le_trans hszL25 hE40.size
 replace hszL29 := Nat.le_trans hszL29 hE40.size
 replace hszL33 := Nat.le_trans hszL33 hE40.size
 replace hszL37 := Nat.le_trans hszL37 hE40.size
 replace hsz := Nat.le_trans hsz hE40.size
 refine l_q (q_pick_f (v := .bool _) rfl rfl rfl) (l_q (qmb rfl rfl) (l_o (o_call Tryz.call49 rfl (line7_ret none 0 [] _ (Row.nil _ _ _ _) (by decide)) rfl ?_)))
 rintro _ w41 ⟨B241, ka41, kc41, sa41, sc41, ja41, jc41, x141, y141, x241, y241, ra41, rq41, rfl, hln41, hE41⟩
 have hszk1_41 := hszL1
 have hszk4_41 := hszL4
 have hszk8_41 := hszL8
 have hszk11_41 := hszL11
 have hszk25_41 := hszL25
 have hszk29_41 := hszL29
 have hszk33_41 := hszL33
 have hszk37_41 := hszL37
 have hszw41 : w.heap.size ≤ w40.heap.size := hsz
 have hszi41 := hE41.size
 replace hB := below_ext hB hE41 hsz
 replace hszL1 := Nat.le_trans hszL1 hE41.size
 replace hszL4 := Nat.le_trans hszL4 hE41.size
 replace hszL8 := Nat.le_trans hszL8 hE41.size
 replace hszL11 := Nat.le_trans hszL11 hE41.size
 replace hszL25 := Nat.le_trans hszL25 hE41.size
 replace hszL29 := Nat.le_trans hszL29 hE41.size
 replace hszL33 := Nat.le_trans hszL33 hE41.size
 replace hszL37 := Nat.le_trans hszL37 hE41.size
 replace hsz := Nat.le_trans hsz hE41.size
 have hszL41 : w41.heap.size ≤ w41.heap.size := Nat.le_refl _
 refine l_o (o_buildSlice (el := 3) (cs := [vint 0, vint 0, vint (-1)]) Tryz.underlying25 el3 (by decide) (by kernel_rfl) rfl (by decide) rfl ?_)
 intro b42 w42 hzl42 hzr42 _ hb42 hE42 ho42
 have hbs_b42 : w.heap.size ≤ b42 := Nat.le_trans hsz hzl42
 replace hB := below_ext hB hE42 hsz
 replace hszL1 := Nat.le_trans hszL1 hE42.size
 replace hszL4 := Nat.le_trans hszL4 hE42.size
 replace hszL8 := Nat.le_trans hszL8 hE42.size
 replace hszL11 := Nat.le_trans hszL11 hE42.size
 replace hszL25 := Nat.le_trans hszL25 hE42.size
 replace hszL29 := Nat.le_trans hszL29 hE42.size
 replace hszL33 := Nat.le_trans hszL33 hE42.size
 replace hszL37 := Nat.le_trans hszL37 hE42.size
 replace hln41 := hln41.ext hE42
 replace hszL41 := Nat.le_trans hszL41 hE42.size
 replace hsz := Nat.le_trans hsz hE42.size
 have hv43 := prove6_ret ka41 kc41 cod3 1 sa41 sc41 [5, -1] ja41 jc41 (lineS x141 y141 x241 y241) ra41 rq41 (lineR ++ []) _ _ [0, 0, (-1)] w42 hln41.at (big_lit (J := lineJ) rfl ⟨by decide, cod3_le⟩ (by decide) ⟨by decide, by decide⟩ ⟨by decide, by decide⟩ (by decide)) (Row.of_owns ho42) (by decide)
 rw [show lg cod3 1 [5, -1] (lineS x141 y141 x241 y241) (lineR ++ []) = lineL [] from rfl, prov_line5] at hv43
 refine l_o (o_call Tryz.call45 rfl (hv43) rfl ?_)
 rintro _ w44 ⟨rfl, hE44⟩
 replace hB := below_ext hB hE44 hsz
 replace hszL1 := Nat.le_trans hszL1 hE44.size
 replace hszL4 := Nat.le_trans hszL4 hE44.size
 replace hszL8 := Nat.le_trans hszL8 hE44.size
 replace hszL11 := Nat.le_trans hszL11 hE44.size
 replace hszL25 := Nat.le_trans hszL25 hE44.size
 replace hszL29 := Nat.le_trans hszL29 hE44.size
 replace hszL33 := Nat.le_trans hszL33 hE44.size
 replace hszL37 := Nat.le_trans hszL37 hE44.size
 replace hszL41 := Nat.le_trans hszL41 hE44.size
 replace hsz := Nat.le_trans hsz hE44.size
 refine l_q (q_pick_f (v := .bool _) rfl rfl rfl) (l_nil (r_forget [(100, .bool _)] ⟨rfl, trivial⟩ (fun e45 => (r_cond_f rfl (r_skip (r_seq (r_region' (l_q (q_build (v := .agg ⟨[vint 6, vint 0, vstr [45, 32, 46]]⟩) (fun w => by kernel_rfl) rfl) (l_o (o_buildSlice (el := 75) (cs := [vint 6, vint 0, vstr [45, 32, 46]]) Tryz.underlying36 el75 (by decide) (by kernel_rfl) rfl (by decide) rfl ?_))))))))))
 intro b46 w46 hzl46 hzr46 _ hb46 hE46 ho46
 have hbs_b46 : w.heap.size ≤ b46 := Nat.le_trans hsz hzl46
 replace hB := below_ext hB hE46 hsz
 replace hszL1 := Nat.le_trans hszL1 hE46.size
 replace hszL4 := Nat.le_trans hszL4 hE46.size
 replace hszL8 := Nat.le_trans hszL8 hE46.size
 replace hszL11 := Nat.le_trans hszL11 hE46.size
 replace hszL25 := Nat.le_trans hszL25 hE46.size
 replace hszL29 := Nat.le_trans hszL29 hE46.size
 replace hszL33 := Nat.le_trans hszL33 hE46.size
 replace hszL37 := Nat.le_trans hszL37 hE46.size
 replace hszL41 := Nat.le_trans hszL41 hE46.size
 replace hsz := Nat.le_trans hsz hE46.size
 refine l_o (o_call Tryz.call49 rfl (line7_ret (some ⟨b46, 0, none⟩) 1 [rc4] _ (Row.of_owns ho46) (by decide)) rfl ?_)
 rintro _ w47 ⟨B247, ka47, kc47, sa47, sc47, ja47, jc47, x147, y147, x247, y247, ra47, rq47, rfl, hln47, hE47⟩
 have hszk1_47 := hszL1
 have hszk4_47 := hszL4
 have hszk8_47 := hszL8
 have hszk11_47 := hszL11
 have hszk25_47 := hszL25
 have hszk29_47 := hszL29
 have hszk33_47 := hszL33
 have hszk37_47 := hszL37
 have hszk41_47 := hszL41
 have hszw47 : w.heap.size ≤ w46.heap.size := hsz
 have hszi47 := hE47.size
 replace hB := below_ext hB hE47 hsz
 replace hszL1 := Nat.le_trans hszL1 hE47.size
 replace hszL4 := Nat.le_trans hszL4 hE47.size
 replace hszL8 := Nat.le_trans hszL8 hE47.size
 replace hszL11 := Nat.le_trans hszL11 hE47.size
 replace hszL25 := Nat.le_trans hszL25 hE47.size
 replace hszL29 := Nat.le_trans hszL29 hE47.size
 replace hszL33 := Nat.le_trans hszL33 hE47.size
 replace hszL37 := Nat.le_trans hszL37 hE47.size
 replace hszL41 := Nat.le_trans hszL41 hE47.size
 replace hsz := Nat.le_trans hsz hE47.size
 have hszL47 : w47.heap.size ≤ w47.heap.size := Nat.le_refl _
 refine l_o (o_alloct Tryz.zeroValue38 rfl rfl ?_)
 intro b48 w48 hzl48 hzr48 _ hb48 hty_b48 hE48
 have hbs_b48 : w.heap.size ≤ b48 := Nat.le_trans hsz hzl48
 replace hB := below_ext hB hE48 hsz
 replace hszL1 := Nat.le_trans hszL1 hE48.size
 replace hszL4 := Nat.le_trans hszL4 hE48.size
 replace hszL8 := Nat.le_trans hszL8 hE48.size
 replace hszL11 := Nat.le_trans hszL11 hE48.size
 replace hszL25 := Nat.le_trans hszL25 hE48.size
 replace hszL29 := Nat.le_trans hszL29 hE48.size
 replace hszL33 := Nat.le_trans hszL33 hE48.size
 replace hszL37 := Nat.le_trans hszL37 hE48.size
 replace hszL41 := Nat.le_trans hszL41 hE48.size
 replace hln47 := hln47.ext hE48
 replace hszL47 := Nat.le_trans hszL47 hE48.size
 replace hsz := Nat.le_trans hsz hE48.size
 refine l_o (o_storet (vs := [.slice ka47 cod3.length kc47, vint 1, .slice sa47 ([5, -1].length) sc47, .slice ja47 (((lineS x147 y147 x247 y247)).length) jc47, .slice ra47 (((lineR ++ [rc4])).length) rq47]) (cs' := [.slice ka47 cod3.length kc47, vint 1, .slice sa47 ([5, -1].length) sc47, .slice ja47 (((lineS x147 y147 x247 y247)).length) jc47, .slice ra47 (((lineR ++ [rc4])).length) rq47]) Tryz.sizeOf38 rfl rfl rfl rfl hb48 (Nat.le_of_ble_eq_true rfl) rfl rfl ?_)
 intro w49 hz49 hb48 hT49 hG49
 replace hB := below_upd hB hG49 hsz (by omega)
 replace hsz : w.heap.size ≤ w49.heap.size := by rw [hz49]; exact hsz
 replace hszL1 := Nat.le_trans hszL1 hG49.size
 replace hszL4 := Nat.le_trans hszL4 hG49.size
 replace hszL8 := Nat.le_trans hszL8 hG49.size
 replace hszL11 := Nat.le_trans hszL11 hG49.size
 replace hszL25 := Nat.le_trans hszL25 hG49.size
 replace hszL29 := Nat.le_trans hszL29 hG49.size
 replace hszL33 := Nat.le_trans hszL33 hG49.size
 replace hszL37 := Nat.le_trans hszL37 hG49.size
 replace hszL41 := Nat.le_trans hszL41 hG49.size
 replace hln47 := hln47.keep hG49 (fun g hg => by cases hg; right; omega)
 replace hszL47 := Nat.le_trans hszL47 hG49.size
 replace hty_b48 := hT49 _ hty_b48
 refine l_nil (r_seq (r_region' (l_o (o_call Tryz.call49 rfl (line7_ret none 0 [] _ (Row.nil _ _ _ _) (by decide)) rfl ?_))))
 rintro _ w50 ⟨B250, ka50, kc50, sa50, sc50, ja50, jc50, x150, y150, x250, y250, ra50, rq50, rfl, hln50, hE50⟩
 have hszk1_50 := hszL1
 have hszk4_50 := hszL4
 have hszk8_50 := hszL8
 have hszk11_50 := hszL11
 have hszk25_50 := hszL25
 have hszk29_50 := hszL29
 have hszk33_50 := hszL33
 have hszk37_50 := hszL37
 have hszk41_50 := hszL41
 have hszk47_50 := hszL47
 have hszw50 : w.heap.size ≤ w49.heap.size := hsz
 have hszi50 := hE50.size
 replace hB := below_ext hB hE50 hsz
 replace hszL1 := Nat.le_trans hszL1 hE50.size
 replace hszL4 := Nat.le_trans hszL4 hE50.size
 replace hszL8 := Nat.le_trans hszL8 hE50.size
 replace hszL11 := Nat.le_trans hszL11 hE50.size
 replace hszL25 := Nat.le_trans hszL25 hE50.size
 replace hszL29 := Nat.le_trans hszL29 hE50.size
 replace hszL33 := Nat.le_trans hszL33 hE50.size
 replace hszL37 := Nat.le_trans hszL37 hE50.size
 replace hszL41 := Nat.le_trans hszL41 hE50.size
 replace hln47 := hln47.ext hE50
 replace hszL47 := Nat.le_trans hszL47 hE50.size
 replace hb48 := hb48.ext hE50
 replace hty_b48 := hty_b48.ext hE50
 replace hsz := Nat.le_trans hsz hE50.size
 have hszL50 : w50.heap.size ≤ w50.heap.size := Nat.le_refl _
 refine l_o (o_call Tryz.call49 rfl (line7_ret none 0 [] _ (Row.nil _ _ _ _) (by decide)) rfl ?_)
 rintro _ w51 ⟨B251, ka51, kc51, sa51, sc51, ja51, jc51, x151, y151, x251, y251, ra51, rq51, rfl, hln51, hE51⟩
 have hszk1_51 := hszL1
 have hszk4_51 := hszL4
 have hszk8_51 := hszL8
 have hszk11_51 := hszL11
 have hszk25_51 := hszL25
 have hszk29_51 := hszL29
 have hszk33_51 := hszL33
 have hszk37_51 := hszL37
 have hszk41_51 := hszL41
 have hszk47_51 := hszL47
 have hszk50_51 := hszL50
 have hszw51 : w.heap.size ≤ w50.heap.size := hsz
 have hszi51 := hE51.size
 replace hB := below_ext hB hE51 hsz
 replace hszL1 := Nat.le_trans hszL1 hE51.size
 replace hszL4 := Nat.le_trans hszL4 hE51.size
 replace hszL8 := Nat.le_trans hszL8 hE51.size
 replace hszL11 := Nat.le_trans hszL11 hE51.size
 replace hszL25 := Nat.le_trans hszL25 hE51.size
 replace hszL29 := Nat.le_trans hszL29 hE51.size
 replace hszL33 := Nat.le_trans hszL33 hE51.size
 replace hszL37 := Nat.le_trans hszL37 hE51.size
 replace hszL41 := Nat.le_trans hszL41 hE51.size
 replace hln47 := hln47.ext hE51
 replace hszL47 := Nat.le_trans hszL47 hE51.size
 replace hb48 := hb48.ext hE51
 replace hty_b48 := hty_b48.ext hE51
 replace hln50 := hln50.ext hE51
 replace hszL50 := Nat.le_trans hszL50 hE51.size
 replace hsz := Nat.le_trans hsz hE51.size
 have hszL51 : w51.heap.size ≤ w51.heap.size := Nat.le_refl _
 refine l_o (o_call Tryz.call49 rfl (line7_ret none 0 [] _ (Row.nil _ _ _ _) (by decide)) rfl ?_)
 rintro _ w52 ⟨B252, ka52, kc52, sa52, sc52, ja52, jc52, x152, y152, x252, y252, ra52, rq52, rfl, hln52, hE52⟩
 have hszk1_52 := hszL1
 have hszk4_52 := hszL4
 have hszk8_52 := hszL8
 have hszk11_52 := hszL11
 have hszk25_52 := hszL25
 have hszk29_52 := hszL29
 have hszk33_52 := hszL33
 have hszk37_52 := hszL37
 have hszk41_52 := hszL41
 have hszk47_52 := hszL47
 have hszk50_52 := hszL50
 have hszk51_52 := hszL51
 have hszw52 : w.heap.size ≤ w51.heap.size := hsz
 have hszi52 := hE52.size
 replace hB := below_ext hB hE52 hsz
 replace hszL1 := Nat.le_trans hszL1 hE52.size
 replace hszL4 := Nat.le_trans hszL4 hE52.size
 replace hszL8 := Nat.le_trans hszL8 hE52.size
 replace hszL11 := Nat.le_trans hszL11 hE52.size
 replace hszL25 := Nat.le_trans hszL25 hE52.size
 replace hszL29 := Nat.le_trans hszL29 hE52.size
 replace hszL33 := Nat.le_trans hszL33 hE52.size
 replace hszL37 := Nat.le_trans hszL37 hE52.size
 replace hszL41 := Nat.le_trans hszL41 hE52.size
 replace hln47 := hln47.ext hE52
 replace hszL47 := Nat.le_trans hszL47 hE52.size
 replace hb48 := hb48.ext hE52
 replace hty_b48 := hty_b48.ext hE52
 replace hln50 := hln50.ext hE52
 replace hszL50 := Nat.le_trans hszL50 hE52.size
 replace hln51 := hln51.ext hE52
 replace hszL51 := Nat.le_trans hszL51 hE52.size
 replace hsz := Nat.le_trans hsz hE52.size
 have hszL52 : w52.heap.size ≤ w52.heap.size := Nat.le_refl _
 refine l_o (o_call Tryz.call49 rfl (line7_ret none 0 [] _ (Row.nil _ _ _ _) (by decide)) rfl ?_)
 rintro _ w53 ⟨B253, ka53, kc53, sa53, sc53, ja53, jc53, x153, y153, x253, y253, ra53, rq53, rfl, hln53, hE53⟩
 have hszk1_53 := hszL1
 have hszk4_53 := hszL4
 have hszk8_53 := hszL8
 have hszk11_53 := hszL11
 have hszk25_53 := hszL25
 have hszk29_53 := hszL29
 have hszk33_53 := hszL33
 have hszk37_53 := hszL37
 have hszk41_53 := hszL41
 have hszk47_53 := hszL47
 have hszk50_53 := hszL50
 have hszk51_53 := hszL51
 have hszk52_53 := hszL52
 have hszw53 : w.heap.size ≤ w52.heap.size := hsz
 have hszi53 := hE53.size
 replace hB := below_ext hB hE53 hsz
 replace hszL1 := Nat.le_trans hszL1 hE53.size
 replace hszL4 := Nat.le_trans hszL4 hE53.size
 replace hszL8 := Nat.le_trans hszL8 hE53.size
 replace hszL11 := Nat.le_trans hszL11 hE53.size
 replace hszL25 := Nat.le_trans hszL25 hE53.size
 replace hszL29 := Nat.le_trans hszL29 hE53.size
 replace hszL33 := Nat.le_trans hszL33 hE53.size
 replace hszL37 := Nat.le_trans hszL37 hE53.size
 replace hszL41 := Nat.le_trans hszL41 hE53.size
 replace hln47 := hln47.ext hE53
 replace hszL47 := Nat.le_trans hszL47 hE53.size
 replace hb48 := hb48.ext hE53
 replace hty_b48 := hty_b48.ext hE53
 replace hln50 := hln50.ext hE53
 replace hszL50 := Nat.le_trans hszL50 hE53.size
 replace hln51 := hln51.ext hE53
 replace hszL51 := Nat.le_trans hszL51 hE53.size
 replace hln52 := hln52.ext hE53
 replace hszL52 := Nat.le_trans hszL52 hE53.size
 replace hsz := Nat.le_trans hsz hE53.size
 have hszL53 : w53.heap.size ≤ w53.heap.size := Nat.le_refl _
 refine l_o (o_call Tryz.call49 rfl (line7_ret none 0 [] _ (Row.nil _ _ _ _) (by decide)) rfl ?_)
 rintro _ w54 ⟨B254, ka54, kc54, sa54, sc54, ja54, jc54, x154, y154, x254, y254, ra54, rq54, rfl, hln54, hE54⟩
 have hszk1_54 := hszL1
 have hszk4_54 := hszL4
 have hszk8_54 := hszL8
 have hszk11_54 := hszL11
 have hszk25_54 := hszL25
 have hszk29_54 := hszL29
 have hszk33_54 := hszL33
 have hszk37_54 := hszL37
 have hszk41_54 := hszL41
 have hszk47_54 := hszL47
 have hszk50_54 := hszL50
 have hszk51_54 := hszL51
 have hszk52_54 := hszL52
 have hszk53_54 := hszL53
 have hszw54 : w.heap.size ≤ w53.heap.size := hsz
 have hszi54 := hE54.size
 replace hB := below_ext hB hE54 hsz
 replace hszL1 := Nat.le_trans hszL1 hE54.size
 replace hszL4 := Nat.le_trans hszL4 hE54.size
 replace hszL8 := Nat.le_trans hszL8 hE54.size
 replace hszL11 := Nat.le_trans hszL11 hE54.size
 replace hszL25 := Nat.le_trans hszL25 hE54.size
 replace hszL29 := Nat.le_trans hszL29 hE54.size
 replace hszL33 := Nat.le_trans hszL33 hE54.size
 replace hszL37 := Nat.le_trans hszL37 hE54.size
 replace hszL41 := Nat.le_trans hszL41 hE54.size
 replace hln47 := hln47.ext hE54
 replace hszL47 := Nat.le_trans hszL47 hE54.size
 replace hb48 := hb48.ext hE54
 replace hty_b48 := hty_b48.ext hE54
 replace hln50 := hln50.ext hE54
 replace hszL50 := Nat.le_trans hszL50 hE54.size
 replace hln51 := hln51.ext hE54
 replace hszL51 := Nat.le_trans hszL51 hE54.size
 replace hln52 := hln52.ext hE54
 replace hszL52 := Nat.le_trans hszL52 hE54.size
 replace hln53 := hln53.ext hE54
 replace hszL53 := Nat.le_trans hszL53 hE54.size
 replace hsz := Nat.le_trans hsz hE54.size
 have hszL54 : w54.heap.size ≤ w54.heap.size := Nat.le_refl _
 refine l_o (o_alloct Tryz.zeroValue38 rfl rfl ?_)
 intro b55 w55 hzl55 hzr55 _ hb55 hty_b55 hE55
 have hne_b48_b55 : b48 ≠ b55 := by have := hb48.lt; omega
 have hbs_b55 : w.heap.size ≤ b55 := Nat.le_trans hsz hzl55
 replace hB := below_ext hB hE55 hsz
 replace hszL1 := Nat.le_trans hszL1 hE55.size
 replace hszL4 := Nat.le_trans hszL4 hE55.size
 replace hszL8 := Nat.le_trans hszL8 hE55.size
 replace hszL11 := Nat.le_trans hszL11 hE55.size
 replace hszL25 := Nat.le_trans hszL25 hE55.size
 replace hszL29 := Nat.le_trans hszL29 hE55.size
 replace hszL33 := Nat.le_trans hszL33 hE55.size
 replace hszL37 := Nat.le_trans hszL37 hE55.size
 replace hszL41 := Nat.le_trans hszL41 hE55.size
 replace hln47 := hln47.ext hE55
 replace hszL47 := Nat.le_trans hszL47 hE55.size
 replace hb48 := hb48.ext hE55
 replace hty_b48 := hty_b48.ext hE55
 replace hln50 := hln50.ext hE55
 replace hszL50 := Nat.le_trans hszL50 hE55.size
 replace hln51 := hln51.ext hE55
 replace hszL51 := Nat.le_trans hszL51 hE55.size
 replace hln52 := hln52.ext hE55
 replace hszL52 := Nat.le_trans hszL52 hE55.size
 replace hln53 := hln53.ext hE55
 replace hszL53 := Nat.le_trans hszL53 hE55.size
 replace hln54 := hln54.ext hE55
 replace hszL54 := Nat.le_trans hszL54 hE55.size
 replace hsz := Nat.le_trans hsz hE55.size
 refine l_o (o_alloct Tryz.zeroValue38 rfl rfl ?_)
 intro b56 w56 hzl56 hzr56 _ hb56 hty_b56 hE56
 have hne_b48_b56 : b48 ≠ b56 := by have := hb48.lt; omega
 have hne_b55_b56 : b55 ≠ b56 := by have := hb55.lt; omega
 have hbs_b56 : w.heap.size ≤ b56 := Nat.le_trans hsz hzl56
 replace hB := below_ext hB hE56 hsz
 replace hszL1 := Nat.le_trans hszL1 hE56.size
 replace hszL4 := Nat.le_trans hszL4 hE56.size
 replace hszL8 := Nat.le_trans hszL8 hE56.size
 replace hszL11 := Nat.le_trans hszL11 hE56.size
 replace hszL25 := Nat.le_trans hszL25 hE56.size
 replace hszL29 := Nat.le_trans hszL29 hE56.size
 replace hszL33 := Nat.le_trans hszL33 hE56.size
 replace hszL37 := Nat.le_trans hszL37 hE56.size
 replace hszL41 := Nat.le_trans hszL41 hE56.size
 replace hln47 := hln47.ext hE56
 replace hszL47 := Nat.le_trans hszL47 hE56.size
 replace hb48 := hb48.ext hE56
 replace hty_b48 := hty_b48.ext hE56
 replace hln50 := hln50.ext hE56
 replace hszL50 := Nat.le_trans hszL50 hE56.size
 replace hln51 := hln51.ext hE56
 replace hszL51 := Nat.le_trans hszL51 hE56.size
 replace hln52 := hln52.ext hE56
 replace hszL52 := Nat.le_trans hszL52 hE56.size
 replace hln53 := hln53.ext hE56
 replace hszL53 := Nat.le_trans hszL53 hE56.size
 replace hln54 := hln54.ext hE56
 replace hszL54 := Nat.le_trans hszL54 hE56.size
 replace hb55 := hb55.ext hE56
 replace hty_b55 := hty_b55.ext hE56
 replace hsz := Nat.le_trans hsz hE56.size
 refine l_o (o_alloct Tryz.zeroValue38 rfl rfl ?_)
 intro b57 w57 hzl57 hzr57 _ hb57 hty_b57 hE57
 have hne_b48_b57 : b48 ≠ b57 := by have := hb48.lt; omega
 have hne_b55_b57 : b55 ≠ b57 := by have := hb55.lt; omega
 have hne_b56_b57 : b56 ≠ b57 := by have := hb56.lt; omega
 have hbs_b57 : w.heap.size ≤ b57 := Nat.le_trans hsz hzl57
 replace hB := below_ext hB hE57 hsz
 replace hszL1 := Nat.le_trans hszL1 hE57.size
 replace hszL4 := Nat.le_trans hszL4 hE57.size
 replace hszL8 := Nat.le_trans hszL8 hE57.size
 replace hszL11 := Nat.le_trans hszL11 hE57.size
 replace hszL25 := Nat.le_trans hszL25 hE57.size
 replace hszL29 := Nat.le_trans hszL29 hE57.size
 replace hszL33 := Nat.le_trans hszL33 hE57.size
 replace hszL37 := Nat.le_trans hszL37 hE57.size
 replace hszL41 := Nat.le_trans hszL41 hE57.size
 replace hln47 := hln47.ext hE57
 replace hszL47 := Nat.le_trans hszL47 hE57.size
 replace hb48 := hb48.ext hE57
 replace hty_b48 := hty_b48.ext hE57
 replace hln50 := hln50.ext hE57
 replace hszL50 := Nat.le_trans hszL50 hE57.size
 replace hln51 := hln51.ext hE57
 replace hszL51 := Nat.le_trans hszL51 hE57.size
 replace hln52 := hln52.ext hE57
 replace hszL52 := Nat.le_trans hszL52 hE57.size
 replace hln53 := hln53.ext hE57
 replace hszL53 := Nat.le_trans hszL53 hE57.size
 replace hln54 := hln54.ext hE57
 replace hszL54 := Nat.le_trans hszL54 hE57.size
 replace hb55 := hb55.ext hE57
 replace hty_b55 := hty_b55.ext hE57
 replace hb56 := hb56.ext hE57
 replace hty_b56 := hty_b56.ext hE57
 replace hsz := Nat.le_trans hsz hE57.size
 refine l_o (o_alloct Tryz.zeroValue38 rfl rfl ?_)
 intro b58 w58 hzl58 hzr58 _ hb58 hty_b58 hE58
 have hne_b48_b58 : b48 ≠ b58 := by have := hb48.lt; omega
 have hne_b55_b58 : b55 ≠ b58 := by have := hb55.lt; omega
 have hne_b56_b58 : b56 ≠ b58 := by have := hb56.lt; omega
 have hne_b57_b58 : b57 ≠ b58 := by have := hb57.lt; omega
 have hbs_b58 : w.heap.size ≤ b58 := Nat.le_trans hsz hzl58
 replace hB := below_ext hB hE58 hsz
 replace hszL1 := Nat.le_trans hszL1 hE58.size
 replace hszL4 := Nat.le_trans hszL4 hE58.size
 replace hszL8 := Nat.le_trans hszL8 hE58.size
 replace hszL11 := Nat.le_trans hszL11 hE58.size
 replace hszL25 := Nat.le_trans hszL25 hE58.size
 replace hszL29 := Nat.le_trans hszL29 hE58.size
 replace hszL33 := Nat.le_trans hszL33 hE58.size
 replace hszL37 := Nat.le_trans hszL37 hE58.size
 replace hszL41 := Nat.le_trans hszL41 hE58.size
 replace hln47 := hln47.ext hE58
 replace hszL47 := Nat.le_trans hszL47 hE58.size
 replace hb48 := hb48.ext hE58
 replace hty_b48 := hty_b48.ext hE58
 replace hln50 := hln50.ext hE58
 replace hszL50 := Nat.le_trans hszL50 hE58.size
 replace hln51 := hln51.ext hE58
 replace hszL51 := Nat.le_trans hszL51 hE58.size
 replace hln52 := hln52.ext hE58
 replace hszL52 := Nat.le_trans hszL52 hE58.size
 replace hln53 := hln53.ext hE58
 replace hszL53 := Nat.le_trans hszL53 hE58.size
 replace hln54 := hln54.ext hE58
 replace hszL54 := Nat.le_trans hszL54 hE58.size
 replace hb55 := hb55.ext hE58
 replace hty_b55 := hty_b55.ext hE58
 replace hb56 := hb56.ext hE58
 replace hty_b56 := hty_b56.ext hE58
 replace hb57 := hb57.ext hE58
 replace hty_b57 := hty_b57.ext hE58
 replace hsz := Nat.le_trans hsz hE58.size
 refine l_o (o_alloct Tryz.zeroValue38 rfl rfl ?_)
 intro b59 w59 hzl59 hzr59 _ hb59 hty_b59 hE59
 have hne_b48_b59 : b48 ≠ b59 := by have := hb48.lt; omega
 have hne_b55_b59 : b55 ≠ b59 := by have := hb55.lt; omega
 have hne_b56_b59 : b56 ≠ b59 := by have := hb56.lt; omega
 have hne_b57_b59 : b57 ≠ b59 := by have := hb57.lt; omega
 have hne_b58_b59 : b58 ≠ b59 := by have := hb58.lt; omega
 have hbs_b59 : w.heap.size ≤ b59 := Nat.le_trans hsz hzl59
 replace hB := below_ext hB hE59 hsz
 replace hszL1 := Nat.le_trans hszL1 hE59.size
 replace hszL4 := Nat.le_trans hszL4 hE59.size
 replace hszL8 := Nat.le_trans hszL8 hE59.size
 replace hszL11 := Nat.le_trans hszL11 hE59.size
 replace hszL25 := Nat.le_trans hszL25 hE59.size
 replace hszL29 := Nat.le_trans hszL29 hE59.size
 replace hszL33 := Nat.le_trans hszL33 hE59.size
 replace hszL37 := Nat.le_trans hszL37 hE59.size
 replace hszL41 := Nat.le_trans hszL41 hE59.size
 replace hln47 := hln47.ext hE59
 replace hszL47 := Nat.le_trans hszL47 hE59.size
 replace hb48 := hb48.ext hE59
 replace hty_b48 := hty_b48.ext hE59
 replace hln50 := hln50.ext hE59
 replace hszL50 := Nat.le_trans hszL50 hE59.size
 replace hln51 := hln51.ext hE59
 replace hszL51 := Nat.le_trans hszL51 hE59.size
 replace hln52 := hln52.ext hE59
 replace hszL52 := Nat.le_trans hszL52 hE59.size
 replace hln53 := hln53.ext hE59
 replace hszL53 := Nat.le_trans hszL53 hE59.size
 replace hln54 := hln54.ext hE59
 replace hszL54 := Nat.le_trans hszL54 hE59.size
 replace hb55 := hb55.ext hE59
 replace hty_b55 := hty_b55.ext hE59
 replace hb56 := hb56.ext hE59
 replace hty_b56 := hty_b56.ext hE59
 replace hb57 := hb57.ext hE59
 replace hty_b57 := hty_b57.ext hE59
 replace hb58 := hb58.ext hE59
 replace hty_b58 := hty_b58.ext hE59
 replace hsz := Nat.le_trans hsz hE59.size
 refine l_o (o_storet (vs := [.slice ka50 cod3.length kc50, vint 1, .slice sa50 ([5, -1].length) sc50, .slice ja50 (((lineS x150 y150 x250 y250)).length) jc50, .slice ra50 (((lineR ++ [])).length) rq50]) (cs' := [.slice ka50 cod3.length kc50, vint 1, .slice sa50 ([5, -1].length) sc50, .slice ja50 (((lineS x150 y150 x250 y250)).length) jc50, .slice ra50 (((lineR ++ [])).length) rq50]) Tryz.sizeOf38 rfl rfl rfl rfl hb55 (Nat.le_of_ble_eq_true rfl) rfl rfl ?_)
 intro w60 hz60 hb55 hT60 hG60
 replace hB := below_upd hB hG60 hsz (by omega)
 replace hsz : w.heap.size ≤ w60.heap.size := by rw [hz60]; exact hsz
 replace hszL1 := Nat.le_trans hszL1 hG60.size
 replace hszL4 := Nat.le_trans hszL4 hG60.size
 replace hszL8 := Nat.le_trans hszL8 hG60.size
 replace hszL11 := Nat.le_trans hszL11 hG60.size
 replace hszL25 := Nat.le_trans hszL25 hG60.size
 replace hszL29 := Nat.le_trans hszL29 hG60.size
 replace hszL33 := Nat.le_trans hszL33 hG60.size
 replace hszL37 := Nat.le_trans hszL37 hG60.size
 replace hszL41 := Nat.le_trans hszL41 hG60.size
 replace hln47 := hln47.keep hG60 (fun g hg => by cases hg; right; omega)
 replace hszL47 := Nat.le_trans hszL47 hG60.size
 replace hb48 := hb48.upd hG60 (by omega)
 replace hty_b48 := hty_b48.upd hG60 (by omega)
 replace hln50 := hln50.keep hG60 (fun g hg => by cases hg; right; omega)
 replace hszL50 := Nat.le_trans hszL50 hG60.size
 replace hln51 := hln51.keep hG60 (fun g hg => by cases hg; right; omega)
 replace hszL51 := Nat.le_trans hszL51 hG60.size
 replace hln52 := hln52.keep hG60 (fun g hg => by cases hg; right; omega)
 replace hszL52 := Nat.le_trans hszL52 hG60.size
 replace hln53 := hln53.keep hG60 (fun g hg => by cases hg; right; omega)
 replace hszL53 := Nat.le_trans hszL53 hG60.size
 replace hln54 := hln54.keep hG60 (fun g hg => by cases hg; right; omega)
 replace hszL54 := Nat.le_trans hszL54 hG60.size
 replace hb56 := hb56.upd hG60 (by omega)
 replace hty_b56 := hty_b56.upd hG60 (by omega)
 replace hb57 := hb57.upd hG60 (by omega)
 replace hty_b57 := hty_b57.upd hG60 (by omega)
 replace hb58 := hb58.upd hG60 (by omega)
 replace hty_b58 := hty_b58.upd hG60 (by omega)
 replace hb59 := hb59.upd hG60 (by omega)
 replace hty_b59 := hty_b59.upd hG60 (by omega)
 replace hty_b55 := hT60 _ hty_b55
 refine l_o (o_storet (vs := [.slice ka51 cod3.length kc51, vint 1, .slice sa51 ([5, -1].length) sc51, .slice ja51 (((lineS x151 y151 x251 y251)).length) jc51, .slice ra51 (((lineR ++ [])).length) rq51]) (cs' := [.slice ka51 cod3.length kc51, vint 1, .slice sa51 ([5, -1].length) sc51, .slice ja51 (((lineS x151 y151 x251 y251)).length) jc51, .slice ra51 (((lineR ++ [])).length) rq51]) Tryz.sizeOf38 rfl rfl rfl rfl hb56 (Nat.le_of_ble_eq_true rfl) rfl rfl ?_)
 intro w61 hz61 hb56 hT61 hG61
 replace hB := below_upd hB hG61 hsz (by omega)
 replace hsz : w.heap.size ≤ w61.heap.size := by rw [hz61]; exact hsz
 replace hszL1 := Nat.le_trans hszL1 hG61.size
 replace hszL4 := Nat.le_trans hszL4 hG61.size
 replace hszL8 := Nat.le_trans hszL8 hG61.size
 replace hszL11 := Nat.le_trans hszL11 hG61.size
 replace hszL25 := Nat.le_trans hszL25 hG61.size
 replace hszL29 := Nat.le_trans hszL29 hG61.size
 replace hszL33 := Nat.le_trans hszL33 hG61.size
 replace hszL37 := Nat.le_trans hszL37 hG61.size
 replace hszL41 := Nat.le_trans hszL41 hG61.size
 replace hln47 := hln47.keep hG61 (fun g hg => by cases hg; right; omega)
 replace hszL47 := Nat.le_trans hszL47 hG61.size
 replace hb48 := hb48.upd hG61 (by omega)
 replace hty_b48 := hty_b48.upd hG61 (by omega)
 replace hln50 := hln50.keep hG61 (fun g hg => by cases hg; right; omega)
 replace hszL50 := Nat.le_trans hszL50 hG61.size
 replace hln51 := hln51.keep hG61 (fun g hg => by cases hg; right; omega)
 replace hszL51 := Nat.le_trans hszL51 hG61.size
 replace hln52 := hln52.keep hG61 (fun g hg => by cases hg; right; omega)
 replace hszL52 := Nat.le_trans hszL52 hG61.size
 replace hln53 := hln53.keep hG61 (fun g hg => by cases hg; right; omega)
 replace hszL53 := Nat.le_trans hszL53 hG61.size
 replace hln54 := hln54.keep hG61 (fun g hg => by cases hg; right; omega)
 replace hszL54 := Nat.le_trans hszL54 hG61.size
 replace hb55 := hb55.upd hG61 (by omega)
 replace hty_b55 := hty_b55.upd hG61 (by omega)
 replace hb57 := hb57.upd hG61 (by omega)
 replace hty_b57 := hty_b57.upd hG61 (by omega)
 replace hb58 := hb58.upd hG61 (by omega)
 replace hty_b58 := hty_b58.upd hG61 (by omega)
 replace hb59 := hb59.upd hG61 (by omega)
 replace hty_b59 := hty_b59.upd hG61 (by omega)
 replace hty_b56 := hT61 _ hty_b56
 refine l_o (o_storet (vs := [.slice ka52 cod3.length kc52, vint 1, .slice sa52 ([5, -1].length) sc52, .slice ja52 (((lineS x152 y152 x252 y252)).length) jc52, .slice ra52 (((lineR ++ [])).length) rq52]) (cs' := [.slice ka52 cod3.length kc52, vint 1, .slice sa52 ([5, -1].length) sc52, .slice ja52 (((lineS x152 y152 x252 y252)).length) jc52, .slice ra52 (((lineR ++ [])).length) rq52]) Tryz.sizeOf38 rfl rfl rfl rfl hb57 (Nat.le_of_ble_eq_true rfl) rfl rfl ?_)
 intro w62 hz62 hb57 hT62 hG62
 replace hB := below_upd hB hG62 hsz (by omega)
 replace hsz : w.heap.size ≤ w62.heap.size := by rw [hz62]; exact hsz
 replace hszL1 := Nat.le_trans hszL1 hG62.size
 replace hszL4 := Nat.le_trans hszL4 hG62.size
 replace hszL8 := Nat.le_trans hszL8 hG62.size
 replace hszL11 := Nat.le_trans hszL11 hG62.size
 replace hszL25 := Nat.le_trans hszL25 hG62.size
 replace hszL29 := Nat.le_trans hszL29 hG62.size
 replace hszL33 := Nat.le_trans hszL33 hG62.size
 replace hszL37 := Nat.le_trans hszL37 hG62.size
 replace hszL41 := Nat.le_trans hszL41 hG62.size
 replace hln47 := hln47.keep hG62 (fun g hg => by cases hg; right; omega)
 replace hszL47 := Nat.le_trans hszL47 hG62.size
 replace hb48 := hb48.upd hG62 (by omega)
 replace hty_b48 := hty_b48.upd hG62 (by omega)
 replace hln50 := hln50.keep hG62 (fun g hg => by cases hg; right; omega)
 replace hszL50 := Nat.le_trans hszL50 hG62.size
 replace hln51 := hln51.keep hG62 (fun g hg => by cases hg; right; omega)
 replace hszL51 := Nat.le_trans hszL51 hG62.size
 replace hln52 := hln52.keep hG62 (fun g hg => by cases hg; right; omega)
 replace hszL52 := Nat.le_trans hszL52 hG62.size
 replace hln53 := hln53.keep hG62 (fun g hg => by cases hg; right; omega)
 replace hszL53 := Nat.le_trans hszL53 hG62.size
 replace hln54 := hln54.keep hG62 (fun g hg => by cases hg; right; omega)
 replace hszL54 := Nat.le_trans hszL54 hG62.size
 replace hb55 := hb55.upd hG62 (by omega)
 replace hty_b55 := hty_b55.upd hG62 (by omega)
 replace hb56 := hb56.upd hG62 (by omega)
 replace hty_b56 := hty_b56.upd hG62 (by omega)
 replace hb58 := hb58.upd hG62 (by omega)
 replace hty_b58 := hty_b58.upd hG62 (by omega)
 replace hb59 := hb59.upd hG62 (by omega)
 replace hty_b59 := hty_b59.upd hG62 (by omega)
 replace hty_b57 := hT62 _ hty_b57
 refine l_o (o_storet (vs := [.slice ka53 cod3.length kc53, vint 1, .slice sa53 ([5, -1].length) sc53, .slice ja53 (((lineS x153 y153 x253 y253)).length) jc53, .slice ra53 (((lineR ++ [])).length) rq53]) (cs' := [.slice ka53 cod3.length kc53, vint 1, .slice sa53 ([5, -1].length) sc53, .slice ja53 (((lineS x153 y153 x253 y253)).length) jc53, .slice ra53 (((lineR ++ [])).length) rq53]) Tryz.sizeOf38 rfl rfl rfl rfl hb58 (Nat.le_of_ble_eq_true rfl) rfl rfl ?_)
 intro w63 hz63 hb58 hT63 hG63
 replace hB := below_upd hB hG63 hsz (by omega)
 replace hsz : w.heap.size ≤ w63.heap.size := by rw [hz63]; exact hsz
 replace hszL1 := Nat.le_trans hszL1 hG63.size
 replace hszL4 := Nat.le_trans hszL4 hG63.size
 replace hszL8 := Nat.le_trans hszL8 hG63.size
 replace hszL11 := Nat.le_trans hszL11 hG63.size
 replace hszL25 := Nat.le_trans hszL25 hG63.size
 replace hszL29 := Nat.le_trans hszL29 hG63.size
 replace hszL33 := Nat.le_trans hszL33 hG63.size
 replace hszL37 := Nat.le_trans hszL37 hG63.size
 replace hszL41 := Nat.le_trans hszL41 hG63.size
 replace hln47 := hln47.keep hG63 (fun g hg => by cases hg; right; omega)
 replace hszL47 := Nat.le_trans hszL47 hG63.size
 replace hb48 := hb48.upd hG63 (by omega)
 replace hty_b48 := hty_b48.upd hG63 (by omega)
 replace hln50 := hln50.keep hG63 (fun g hg => by cases hg; right; omega)
 replace hszL50 := Nat.le_trans hszL50 hG63.size
 replace hln51 := hln51.keep hG63 (fun g hg => by cases hg; right; omega)
 replace hszL51 := Nat.le_trans hszL51 hG63.size
 replace hln52 := hln52.keep hG63 (fun g hg => by cases hg; right; omega)
 replace hszL52 := Nat.le_trans hszL52 hG63.size
 replace hln53 := hln53.keep hG63 (fun g hg => by cases hg; right; omega)
 replace hszL53 := Nat.le_trans hszL53 hG63.size
 replace hln54 := hln54.keep hG63 (fun g hg => by cases hg; right; omega)
 replace hszL54 := Nat.le_trans hszL54 hG63.size
 replace hb55 := hb55.upd hG63 (by omega)
 replace hty_b55 := hty_b55.upd hG63 (by omega)
 replace hb56 := hb56.upd hG63 (by omega)
 replace hty_b56 := hty_b56.upd hG63 (by omega)
 replace hb57 := hb57.upd hG63 (by omega)
 replace hty_b57 := hty_b57.upd hG63 (by omega)
 replace hb59 := hb59.upd hG63 (by omega)
 replace hty_b59 := hty_b59.upd hG63 (by omega)
 replace hty_b58 := hT63 _ hty_b58
 refine l_o (o_storet (vs := [.slice ka54 cod3.length kc54, vint 1, .slice sa54 ([5, -1].length) sc54, .slice ja54 (((lineS x154 y154 x254 y254)).length) jc54, .slice ra54 (((lineR ++ [])).length) rq54]) (cs' := [.slice ka54 cod3.length kc54, vint 1, .slice sa54 ([5, -1].length) sc54, .slice ja54 (((lineS x154 y154 x254 y254)).length) jc54, .slice ra54 (((lineR ++ [])).length) rq54]) Tryz.sizeOf38 rfl rfl rfl rfl hb59 (Nat.le_of_ble_eq_true rfl) rfl rfl ?_)
 intro w64 hz64 hb59 hT64 hG64
 replace hB := below_upd hB hG64 hsz (by omega)
 replace hsz : w.heap.size ≤ w64.heap.size := by rw [hz64]; exact hsz
 replace hszL1 := Nat.le_trans hszL1 hG64.size
 replace hszL4 := Nat.le_trans hszL4 hG64.size
 replace hszL8 := Nat.le_trans hszL8 hG64.size
 replace hszL11 := Nat.le_trans hszL11 hG64.size
 replace hszL25 := Nat.le_trans hszL25 hG64.size
 replace hszL29 := Nat.le_trans hszL29 hG64.size
 replace hszL33 := Nat.le_trans hszL33 hG64.size
 replace hszL37 := Nat.le_trans hszL37 hG64.size
 replace hszL41 := Nat.le_trans hszL41 hG64.size
 replace hln47 := hln47.keep hG64 (fun g hg => by cases hg; right; omega)
 replace hszL47 := Nat.le_trans hszL47 hG64.size
 replace hb48 := hb48.upd hG64 (by omega)
 replace hty_b48 := hty_b48.upd hG64 (by omega)
 replace hln50 := hln50.keep hG64 (fun g hg => by cases hg; right; omega)
 replace hszL50 := Nat.le_trans hszL50 hG64.size
 replace hln51 := hln51.keep hG64 (fun g hg => by cases hg; right; omega)
 replace hszL51 := Nat.le_trans hszL51 hG64.size
 replace hln52 := hln52.keep hG64 (fun g hg => by cases hg; right; omega)
 replace hszL52 := Nat.le_trans hszL52 hG64.size
 replace hln53 := hln53.keep hG64 (fun g hg => by cases hg; right; omega)
 replace hszL53 := Nat.le_trans hszL53 hG64.size
 replace hln54 := hln54.keep hG64 (fun g hg => by cases hg; right; omega)
 replace hszL54 := Nat.le_trans hszL54 hG64.size
 replace hb55 := hb55.upd hG64 (by omega)
 replace hty_b55 := hty_b55.upd hG64 (by omega)
 replace hb56 := hb56.upd hG64 (by omega)
 replace hty_b56 := hty_b56.upd hG64 (by omega)
 replace hb57 := hb57.upd hG64 (by omega)
 replace hty_b57 := hty_b57.upd hG64 (by omega)
 replace hb58 := hb58.upd hG64 (by omega)
 replace hty_b58 := hty_b58.upd hG64 (by omega)
 replace hty_b59 := hT64 _ hty_b59
 refine l_nil (r_seq ?_)
 have hszj1 : ([5, -1] : List Int).length = 2 := rfl
 have hszj13 : ((lineS x153 y153 x253 y253)).length = 2 := rfl
 have hszj14 : ((lineR ++ [])).length = 3 := rfl
 refine r_region' (l_o (o_makeSlice (n := 5) Tryz.underlying25 el3 (rfl) (rfl) (by omega) (by unfold maxLen; omega) rfl ?_))
 intro b65 w65 hzl65 hzr65 _ hb65 hE65 ho65
 rw [made_one _ _ rfl] at hb65 ho65
 have hne_b48_b65 : b48 ≠ b65 := by have := hb48.lt; omega
 have hne_b55_b65 : b55 ≠ b65 := by have := hb55.lt; omega
 have hne_b56_b65 : b56 ≠ b65 := by have := hb56.lt; omega
 have hne_b57_b65 : b57 ≠ b65 := by have := hb57.lt; omega
 have hne_b58_b65 : b58 ≠ b65 := by have := hb58.lt; omega
 have hne_b59_b65 : b59 ≠ b65 := by have := hb59.lt; omega
 have hbs_b65 : w.heap.size ≤ b65 := Nat.le_trans hsz hzl65
 replace hB := below_ext hB hE65 hsz
 replace hszL1 := Nat.le_trans hszL1 hE65.size
 replace hszL4 := Nat.le_trans hszL4 hE65.size
 replace hszL8 := Nat.le_trans hszL8 hE65.size
 replace hszL11 := Nat.le_trans hszL11 hE65.size
 replace hszL25 := Nat.le_trans hszL25 hE65.size
 replace hszL29 := Nat.le_trans hszL29 hE65.size
 replace hszL33 := Nat.le_trans hszL33 hE65.size
 replace hszL37 := Nat.le_trans hszL37 hE65.size
 replace hszL41 := Nat.le_trans hszL41 hE65.size
 replace hln47 := hln47.ext hE65
 replace hszL47 := Nat.le_trans hszL47 hE65.size
 replace hb48 := hb48.ext hE65
 replace hty_b48 := hty_b48.ext hE65
 replace hln50 := hln50.ext hE65
 replace hszL50 := Nat.le_trans hszL50 hE65.size
 replace hln51 := hln51.ext hE65
 replace hszL51 := Nat.le_trans hszL51 hE65.size
 replace hln52 := hln52.ext hE65
 replace hszL52 := Nat.le_trans hszL52 hE65.size
 replace hln53 := hln53.ext hE65
 replace hszL53 := Nat.le_trans hszL53 hE65.size
 replace hln54 := hln54.ext hE65
 replace hszL54 := Nat.le_trans hszL54 hE65.size
 replace hb55 := hb55.ext hE65
 replace hty_b55 := hty_b55.ext hE65
 replace hb56 := hb56.ext hE65
 replace hty_b56 := hty_b56.ext hE65
 replace hb57 := hb57.ext hE65
 replace hty_b57 := hty_b57.ext hE65
 replace hb58 := hb58.ext hE65
 replace hty_b58 := hty_b58.ext hE65
 replace hb59 := hb59.ext hE65
 replace hty_b59 := hty_b59.ext hE65
 replace hsz := Nat.le_trans hsz hE65.size
 replace ho65 : w65.ownsRow w64.heap.size 3 1 (.slice (some ⟨b65, 0, none⟩) 5 5) 5 ((List.replicate 5 0).map vint) := ho65
 refine l_q (q_fieldAddr (o' := 2) rfl fld38_2 rfl) (l_o (o_storet (vs := [.slice (some ⟨b65, 0, none⟩) 5 5]) (cs' := [.slice ka50 cod3.length kc50, vint 1, .slice (some ⟨b65, 0, none⟩) 5 5, .slice ja50 (((lineS x150 y150 x250 y250)).length) jc50, .slice ra50 (((lineR ++ [])).length) rq50]) Tryz.sizeOf25 rfl rfl rfl rfl hb55 (Nat.le_of_ble_eq_true rfl) rfl rfl ?_))
 intro w66 hz66 hb55 hT66 hG66
 replace hB := below_upd hB hG66 hsz (by omega)
 replace hsz : w.heap.size ≤ w66.heap.size := by rw [hz66]; exact hsz
 replace hszL1 := Nat.le_trans hszL1 hG66.size
 replace hszL4 := Nat.le_trans hszL4 hG66.size
 replace hszL8 := Nat.le_trans hszL8 hG66.size
 replace hszL11 := Nat.le_trans hszL11 hG66.size
 replace hszL25 := Nat.le_trans hszL25 hG66.size
 replace hszL29 := Nat.le_trans hszL29 hG66.size
 replace hszL33 := Nat.le_trans hszL33 hG66.size
 replace hszL37 := Nat.le_trans hszL37 hG66.size
 replace hszL41 := Nat.le_trans hszL41 hG66.size
 replace hln47 := hln47.keep hG66 (fun g hg => by cases hg; right; omega)
 replace hszL47 := Nat.le_trans hszL47 hG66.size
 replace hb48 := hb48.upd hG66 (by omega)
 replace hty_b48 := hty_b48.upd hG66 (by omega)
 replace hln50 := hln50.keep hG66 (fun g hg => by cases hg; right; omega)
 replace hszL50 := Nat.le_trans hszL50 hG66.size
 replace hln51 := hln51.keep hG66 (fun g hg => by cases hg; right; omega)
 replace hszL51 := Nat.le_trans hszL51 hG66.size
 replace hln52 := hln52.keep hG66 (fun g hg => by cases hg; right; omega)
 replace hszL52 := Nat.le_trans hszL52 hG66.size
 replace hln53 := hln53.keep hG66 (fun g hg => by cases hg; right; omega)
 replace hszL53 := Nat.le_trans hszL53 hG66.size
 replace hln54 := hln54.keep hG66 (fun g hg => by cases hg; right; omega)
 replace hszL54 := Nat.le_trans hszL54 hG66.size
 replace hb56 := hb56.upd hG66 (by omega)
 replace hty_b56 := hty_b56.upd hG66 (by omega)
 replace hb57 := hb57.upd hG66 (by omega)
 replace hty_b57 := hty_b57.upd hG66 (by omega)
 replace hb58 := hb58.upd hG66 (by omega)
 replace hty_b58 := hty_b58.upd hG66 (by omega)
 replace hb59 := hb59.upd hG66 (by omega)
 replace hty_b59 := hty_b59.upd hG66 (by omega)
 replace ho65 := own_ty_upd ho65 hty_b55 hG66 (by decide)
 replace hty_b55 := hT66 _ hty_b55
 refine l_nil (r_forget [(9, .pointer _), (10, .pointer _), (11, .pointer _), (12, .pointer _), (13, .pointer _), (14, .pointer _)] ⟨rfl, rfl, rfl, rfl, rfl, rfl, trivial⟩ (fun e67 => (r_seq (r_region' (l_o (o_buildSlice (el := 9) (cs := [vstr [46], vstr [46]]) Tryz.underlying22 el9 (by decide) (by kernel_rfl) rfl (by decide) rfl ?_))))))
 intro b68 w68 hzl68 hzr68 _ hb68 hE68 ho68
 have hne_b48_b68 : b48 ≠ b68 := by have := hb48.lt; omega
 have hne_b55_b68 : b55 ≠ b68 := by have := hb55.lt; omega
 have hne_b56_b68 : b56 ≠ b68 := by have := hb56.lt; omega
 have hne_b57_b68 : b57 ≠ b68 := by have := hb57.lt; omega
 have hne_b58_b68 : b58 ≠ b68 := by have := hb58.lt; omega
 have hne_b59_b68 : b59 ≠ b68 := by have := hb59.lt; omega
 have hbs_b68 : w.heap.size ≤ b68 := Nat.le_trans hsz hzl68
 replace hB := below_ext hB hE68 hsz
 replace hszL1 := Nat.le_trans hszL1 hE68.size
 replace hszL4 := Nat.le_trans hszL4 hE68.size
 replace hszL8 := Nat.le_trans hszL8 hE68.size
 replace hszL11 := Nat.le_trans hszL11 hE68.size
 replace hszL25 := Nat.le_trans hszL25 hE68.size
 replace hszL29 := Nat.le_trans hszL29 hE68.size
 replace hszL33 := Nat.le_trans hszL33 hE68.size
 replace hszL37 := Nat.le_trans hszL37 hE68.size
 replace hszL41 := Nat.le_trans hszL41 hE68.size
 replace hln47 := hln47.ext hE68
 replace hszL47 := Nat.le_trans hszL47 hE68.size
 replace hb48 := hb48.ext hE68
 replace hty_b48 := hty_b48.ext hE68
 replace hln50 := hln50.ext hE68
 replace hszL50 := Nat.le_trans hszL50 hE68.size
 replace hln51 := hln51.ext hE68
 replace hszL51 := Nat.le_trans hszL51 hE68.size
 replace hln52 := hln52.ext hE68
 replace hszL52 := Nat.le_trans hszL52 hE68.size
 replace hln53 := hln53.ext hE68
 replace hszL53 := Nat.le_trans hszL53 hE68.size
 replace hln54 := hln54.ext hE68
 replace hszL54 := Nat.le_trans hszL54 hE68.size
 replace hb55 := hb55.ext hE68
 replace hty_b55 := hty_b55.ext hE68
 replace hb56 := hb56.ext hE68
 replace hty_b56 := hty_b56.ext hE68
 replace hb57 := hb57.ext hE68
 replace hty_b57 := hty_b57.ext hE68
 replace hb58 := hb58.ext hE68
 replace hty_b58 := hty_b58.ext hE68
 replace hb59 := hb59.ext hE68
 replace hty_b59 := hty_b59.ext hE68
 replace ho65 := own_ext ho65 hE68
 replace hsz := Nat.le_trans hsz hE68.size
 refine l_q (q_fieldAddr (o' := 0) rfl fld38_0 rfl) (l_q (q_fieldAddr (o' := 0) rfl fld34_0 rfl) (l_o (o_storet (vs := [.slice (some ⟨b68, 0, none⟩) 2 2]) (cs' := [.slice (some ⟨b68, 0, none⟩) 2 2, vint 1, .slice sa51 ([5, -1].length) sc51, .slice ja51 (((lineS x151 y151 x251 y251)).length) jc51, .slice ra51 (((lineR ++ [])).length) rq51]) Tryz.sizeOf22 rfl rfl rfl rfl hb56 (Nat.le_of_ble_eq_true rfl) rfl rfl ?_)))
 intro w69 hz69 hb56 hT69 hG69
 replace hB := below_upd hB hG69 hsz (by omega)
 replace hsz : w.heap.size ≤ w69.heap.size := by rw [hz69]; exact hsz
 replace hszL1 := Nat.le_trans hszL1 hG69.size
 replace hszL4 := Nat.le_trans hszL4 hG69.size
 replace hszL8 := Nat.le_trans hszL8 hG69.size
 replace hszL11 := Nat.le_trans hszL11 hG69.size
 replace hszL25 := Nat.le_trans hszL25 hG69.size
 replace hszL29 := Nat.le_trans hszL29 hG69.size
 replace hszL33 := Nat.le_trans hszL33 hG69.size
 replace hszL37 := Nat.le_trans hszL37 hG69.size
 replace hszL41 := Nat.le_trans hszL41 hG69.size
 replace hln47 := hln47.keep hG69 (fun g hg => by cases hg; right; omega)
 replace hszL47 := Nat.le_trans hszL47 hG69.size
 replace hb48 := hb48.upd hG69 (by omega)
 replace hty_b48 := hty_b48.upd hG69 (by omega)
 replace hln50 := hln50.keep hG69 (fun g hg => by cases hg; right; omega)
 replace hszL50 := Nat.le_trans hszL50 hG69.size
 replace hln51 := hln51.keep hG69 (fun g hg => by cases hg; right; omega)
 replace hszL51 := Nat.le_trans hszL51 hG69.size
 replace hln52 := hln52.keep hG69 (fun g hg => by cases hg; right; omega)
 replace hszL52 := Nat.le_trans hszL52 hG69.size
 replace hln53 := hln53.keep hG69 (fun g hg => by cases hg; right; omega)
 replace hszL53 := Nat.le_trans hszL53 hG69.size
 replace hln54 := hln54.keep hG69 (fun g hg => by cases hg; right; omega)
 replace hszL54 := Nat.le_trans hszL54 hG69.size
 replace hb55 := hb55.upd hG69 (by omega)
 replace hty_b55 := hty_b55.upd hG69 (by omega)
 replace hb57 := hb57.upd hG69 (by omega)
 replace hty_b57 := hty_b57.upd hG69 (by omega)
 replace hb58 := hb58.upd hG69 (by omega)
 replace hty_b58 := hty_b58.upd hG69 (by omega)
 replace hb59 := hb59.upd hG69 (by omega)
 replace hty_b59 := hty_b59.upd hG69 (by omega)
 replace ho65 := own_ty_upd ho65 hty_b56 hG69 (by decide)
 replace ho68 := own_ty_upd ho68 hty_b56 hG69 (by decide)
 replace hty_b56 := hT69 _ hty_b56
 refine l_nil (r_seq (r_region' (l_q (q_fieldAddr (o' := 2) rfl fld38_2 rfl) (l_q (q_load Tryz.isAgg25 rfl ((hb57.has (o := 2) rfl)) rfl) ?_))))
 obtain ⟨b70, o70, ha70, hh70⟩ := hln52.at.rse.at1 0 (([5, -1]).getD 0 0) (getD_some (by omega))
 refine l_q (q_indexAddr1 Tryz.underlying25 Tryz.sizeOf3 rfl ha70 rfl (by omega) rfl) (l_o (o_store_own (f := vint) [5, -1] 0 24 Tryz.sizeOf3 rfl ha70 rfl rfl (fun _ => rfl) hln52.se_ (by decide) rfl ?_))
 intro w71 hz71 ho71 hG71
 replace hB := below_own hB hG71 hln52.se_ (by omega) hsz
 replace hsz := Nat.le_trans hsz hG71.size
 have hgr71 : ∀ g, (Value.slice sa52 [5, -1].length sc52).ownBlock = some g → w51.heap.size ≤ g ∧ g < w52.heap.size := fun g hg => ⟨own_block_ge hln52.se_ hg, hln52.lt.2.1 g hg⟩
 replace hszL1 := Nat.le_trans hszL1 hG71.size
 replace hszL4 := Nat.le_trans hszL4 hG71.size
 replace hszL8 := Nat.le_trans hszL8 hG71.size
 replace hszL11 := Nat.le_trans hszL11 hG71.size
 replace hszL25 := Nat.le_trans hszL25 hG71.size
 replace hszL29 := Nat.le_trans hszL29 hG71.size
 replace hszL33 := Nat.le_trans hszL33 hG71.size
 replace hszL37 := Nat.le_trans hszL37 hG71.size
 replace hszL41 := Nat.le_trans hszL41 hG71.size
 replace hln47 := hln47.keep hG71 (fun g hg => by have := hgr71 g hg; omega)
 replace hszL47 := Nat.le_trans hszL47 hG71.size
 replace hb48 := hb48.step hG71 (own_ty_ne hln52.se_ hty_b48 (by decide))
 replace hln50 := hln50.keep hG71 (fun g hg => by have := hgr71 g hg; omega)
 replace hszL50 := Nat.le_trans hszL50 hG71.size
 replace hln51 := hln51.keep hG71 (fun g hg => by have := hgr71 g hg; omega)
 replace hszL51 := Nat.le_trans hszL51 hG71.size
 replace hszL52 := Nat.le_trans hszL52 hG71.size
 replace hln53 := hln53.keep hG71 (fun g hg => by have := hgr71 g hg; omega)
 replace hszL53 := Nat.le_trans hszL53 hG71.size
 replace hln54 := hln54.keep hG71 (fun g hg => by have := hgr71 g hg; omega)
 replace hszL54 := Nat.le_trans hszL54 hG71.size
 replace hb55 := hb55.step hG71 (own_ty_ne hln52.se_ hty_b55 (by decide))
 replace hb56 := hb56.step hG71 (own_ty_ne hln52.se_ hty_b56 (by decide))
 replace hb57 := hb57.step hG71 (own_ty_ne hln52.se_ hty_b57 (by decide))
 replace hb58 := hb58.step hG71 (own_ty_ne hln52.se_ hty_b58 (by decide))
 replace hb59 := hb59.step hG71 (own_ty_ne hln52.se_ hty_b59 (by decide))
 replace ho65 := own_apart2 ho65 (fun g hg => by have := hgr71 g hg; omega) hG71
 replace ho68 := own_kept ho68 hln52.se_ (by decide) hG71
 replace hty_b48 := TyAt.own hty_b48 hln52.se_ hG71 (by decide)
 replace hty_b55 := TyAt.own hty_b55 hln52.se_ hG71 (by decide)
 replace hty_b56 := TyAt.own hty_b56 hln52.se_ hG71 (by decide)
 replace hty_b57 := TyAt.own hty_b57 hln52.se_ hG71 (by decide)
 replace hty_b58 := TyAt.own hty_b58 hln52.se_ hG71 (by decide)
 replace hty_b59 := TyAt.own hty_b59 hln52.se_ hG71 (by decide)
 replace hln52 := hln52.see (se2 := [24, -1]) hG71 ho71 rfl
 replace hb57 : Blk w71 b57 [.slice ka52 cod3.length kc52, vint 1, .slice sa52 ([24, -1].length) sc52, .slice ja52 (((lineS x152 y152 x252 y252)).length) jc52, .slice ra52 (((lineR ++ [])).length) rq52] := hb57
 refine l_nil (r_seq (r_region' (l_q (q_fieldAddr (o' := 3) rfl fld38_3 rfl) (l_q (q_load Tryz.isAgg35 rfl ((hb58.has (o := 3) rfl)) rfl) ?_))))
 obtain ⟨b72, o72, ha72, hh72⟩ := hln53.at.rsl.at (by decide) 0 (by omega)
 refine l_q (q_indexAddr Tryz.underlying35 Tryz.sizeOf76 rfl ha72 rfl (by omega) rfl) (l_q (q_fieldAddr (o' := 2) rfl fld76_2 rfl) (l_o (o_store_ownc (j := 2) (v := .slice none 0 0) Tryz.sizeOf25 rfl ha72 rfl rfl rfl hln53.jo_ (Nat.le_of_ble_eq_true rfl) rfl ?_)))
 intro w73 hz73 ho73 hG73
 replace hB := below_own hB hG73 hln53.jo_ (by omega) hsz
 replace hsz := Nat.le_trans hsz hG73.size
 have hgr73 : ∀ g, (Value.slice ja53 ((lineS x153 y153 x253 y253)).length jc53).ownBlock = some g → w52.heap.size ≤ g ∧ g < w53.heap.size := fun g hg => ⟨own_block_ge hln53.jo_ hg, hln53.lt.2.2.1 g hg⟩
 replace hszL1 := Nat.le_trans hszL1 hG73.size
 replace hszL4 := Nat.le_trans hszL4 hG73.size
 replace hszL8 := Nat.le_trans hszL8 hG73.size
 replace hszL11 := Nat.le_trans hszL11 hG73.size
 replace hszL25 := Nat.le_trans hszL25 hG73.size
 replace hszL29 := Nat.le_trans hszL29 hG73.size
 replace hszL33 := Nat.le_trans hszL33 hG73.size
 replace hszL37 := Nat.le_trans hszL37 hG73.size
 replace hszL41 := Nat.le_trans hszL41 hG73.size
 replace hln47 := hln47.keep hG73 (fun g hg => by have := hgr73 g hg; omega)
 replace hszL47 := Nat.le_trans hszL47 hG73.size
 replace hb48 := hb48.step hG73 (own_ty_ne hln53.jo_ hty_b48 (by decide))
 replace hln50 := hln50.keep hG73 (fun g hg => by have := hgr73 g hg; omega)
 replace hszL50 := Nat.le_trans hszL50 hG73.size
 replace hln51 := hln51.keep hG73 (fun g hg => by have := hgr73 g hg; omega)
 replace hszL51 := Nat.le_trans hszL51 hG73.size
 replace hln52 := hln52.keep hG73 (fun g hg => by have := hgr73 g hg; omega)
 replace hszL52 := Nat.le_trans hszL52 hG73.size
 replace hszL53 := Nat.le_trans hszL53 hG73.size
 replace hln54 := hln54.keep hG73 (fun g hg => by have := hgr73 g hg; omega)
 replace hszL54 := Nat.le_trans hszL54 hG73.size
 replace hb55 := hb55.step hG73 (own_ty_ne hln53.jo_ hty_b55 (by decide))
 replace hb56 := hb56.step hG73 (own_ty_ne hln53.jo_ hty_b56 (by decide))
 replace hb57 := hb57.step hG73 (own_ty_ne hln53.jo_ hty_b57 (by decide))
 replace hb58 := hb58.step hG73 (own_ty_ne hln53.jo_ hty_b58 (by decide))
 replace hb59 := hb59.step hG73 (own_ty_ne hln53.jo_ hty_b59 (by decide))
 replace ho65 := own_kept ho65 hln53.jo_ (by decide) hG73
 replace ho68 := own_kept ho68 hln53.jo_ (by decide) hG73
 replace hty_b48 := TyAt.own hty_b48 hln53.jo_ hG73 (by decide)
 replace hty_b55 := TyAt.own hty_b55 hln53.jo_ hG73 (by decide)
 replace hty_b56 := TyAt.own hty_b56 hln53.jo_ hG73 (by decide)
 replace hty_b57 := TyAt.own hty_b57 hln53.jo_ hG73 (by decide)
 replace hty_b58 := TyAt.own hty_b58 hln53.jo_ hG73 (by decide)
 replace hty_b59 := TyAt.own hty_b59 hln53.jo_ hG73 (by decide)
 replace hln53 := hln53.jou (sl2 := lineT x253 y253) hG73 ho73 rfl (fun p hp => by rcases List.mem_cons.1 hp with h | h; exact .inr (by rw [h]; exact ⟨rfl, rfl, rfl⟩); exact .inl (List.mem_cons_of_mem _ h))
 replace hb58 : Blk w73 b58 [.slice ka53 cod3.length kc53, vint 1, .slice sa53 ([5, -1].length) sc53, .slice ja53 (((lineT x253 y253)).length) jc53, .slice ra53 (((lineR ++ [])).length) rq53] := hb58
 refine l_nil (r_forget [(9, .pointer _), (10, .pointer _), (11, .pointer _), (12, .pointer _), (13, .pointer _), (14, .pointer _)] ⟨rfl, rfl, rfl, rfl, rfl, rfl, trivial⟩ (fun e74 => (r_seq (r_region' (l_q (q_fieldAddr (o' := 4) rfl fld38_4 rfl) (l_q (q_load Tryz.isAgg36 rfl ((hb59.has (o := 4) rfl)) rfl) ?_))))))
 obtain ⟨b75, o75, ha75, hh75⟩ := hln54.at.rrl.at (by decide) 0 (by omega)
 refine l_q (q_indexAddr Tryz.underlying36 Tryz.sizeOf75 rfl ha75 rfl (by omega) rfl) (l_q (q_fieldAddr (o' := 2) rfl fld75_2 rfl) (l_o (o_store_ownc (j := 2) (v := vstr [120]) Tryz.sizeOf9 rfl ha75 rfl rfl rfl hln54.re_ (Nat.le_of_ble_eq_true rfl) rfl ?_)))
 intro w76 hz76 ho76 hG76
 replace hB := below_own hB hG76 hln54.re_ (by omega) hsz
 replace hsz := Nat.le_trans hsz hG76.size
 have hgr76 : ∀ g, (Value.slice ra54 ((lineR ++ [])).length rq54).ownBlock = some g → w53.heap.size ≤ g ∧ g < w54.heap.size := fun g hg => ⟨own_block_ge hln54.re_ hg, hln54.lt.2.2.2.1 g hg⟩
 replace hszL1 := Nat.le_trans hszL1 hG76.size
 replace hszL4 := Nat.le_trans hszL4 hG76.size
 replace hszL8 := Nat.le_trans hszL8 hG76.size
 replace hszL11 := Nat.le_trans hszL11 hG76.size
 replace hszL25 := Nat.le_trans hszL25 hG76.size
 replace hszL29 := Nat.le_trans hszL29 hG76.size
 replace hszL33 := Nat.le_trans hszL33 hG76.size
 replace hszL37 := Nat.le_trans hszL37 hG76.size
 replace hszL41 := Nat.le_trans hszL41 hG76.size
 replace hln47 := hln47.keep hG76 (fun g hg => by have := hgr76 g hg; omega)
 replace hszL47 := Nat.le_trans hszL47 hG76.size
 replace hb48 := hb48.step hG76 (own_ty_ne hln54.re_ hty_b48 (by decide))
 replace hln50 := hln50.keep hG76 (fun g hg => by have := hgr76 g hg; omega)
 replace hszL50 := Nat.le_trans hszL50 hG76.size
 replace hln51 := hln51.keep hG76 (fun g hg => by have := hgr76 g hg; omega)
 replace hszL51 := Nat.le_trans hszL51 hG76.size
 replace hln52 := hln52.keep hG76 (fun g hg => by have := hgr76 g hg; omega)
 replace hszL52 := Nat.le_trans hszL52 hG76.size
 replace hln53 := hln53.keep hG76 (fun g hg => by have := hgr76 g hg; omega)
 replace hszL53 := Nat.le_trans hszL53 hG76.size
 replace hszL54 := Nat.le_trans hszL54 hG76.size
 replace hb55 := hb55.step hG76 (own_ty_ne hln54.re_ hty_b55 (by decide))
 replace hb56 := hb56.step hG76 (own_ty_ne hln54.re_ hty_b56 (by decide))
 replace hb57 := hb57.step hG76 (own_ty_ne hln54.re_ hty_b57 (by decide))
 replace hb58 := hb58.step hG76 (own_ty_ne hln54.re_ hty_b58 (by decide))
 replace hb59 := hb59.step hG76 (own_ty_ne hln54.re_ hty_b59 (by decide))
 replace ho65 := own_kept ho65 hln54.re_ (by decide) hG76
 replace ho68 := own_kept ho68 hln54.re_ (by decide) hG76
 replace hln54 := hln54.rec_ (rl2 := lineX) hG76 ho76 rfl
 replace hb59 : Blk w76 b59 [.slice ka54 cod3.length kc54, vint 1, .slice sa54 ([5, -1].length) sc54, .slice ja54 (((lineS x154 y154 x254 y254)).length) jc54, .slice ra54 lineX.length rq54] := hb59
 refine l_nil (r_seq (r_region' (l_q (q_load_agg (n := 5) Tryz.isAgg38 Tryz.sizeOf38 rfl ((hb48.cells' (cs' := [_, _, _, _, _]) 0 5 rfl)) rfl rfl) ?_)))
 have hv77 := verdicts6_ret ka47 kc47 cod3 1 sa47 sc47 [5, -1] ja47 jc47 (lineS x147 y147 x247 y247) ra47 rq47 (lineR ++ [rc4])  w76 hln47.at (big_lit (J := lineJ) rfl ⟨by decide, cod3_le⟩ (by decide) ⟨by decide, by decide⟩ ⟨by decide, by decide⟩ (by decide))
 rw [show lg cod3 1 [5, -1] (lineS x147 y147 x247 y247) (lineR ++ [rc4]) = lineL [rc4] from rfl, verd_line4] at hv77
 refine l_o (o_call Tryz.call35 rfl (hv77) rfl ?_)
 rintro _ w78 ⟨a78_0, c78_0, rfl, hr78_0, hE78⟩
 replace hB := below_ext hB hE78 hsz
 replace hszL1 := Nat.le_trans hszL1 hE78.size
 replace hszL4 := Nat.le_trans hszL4 hE78.size
 replace hszL8 := Nat.le_trans hszL8 hE78.size
 replace hszL11 := Nat.le_trans hszL11 hE78.size
 replace hszL25 := Nat.le_trans hszL25 hE78.size
 replace hszL29 := Nat.le_trans hszL29 hE78.size
 replace hszL33 := Nat.le_trans hszL33 hE78.size
 replace hszL37 := Nat.le_trans hszL37 hE78.size
 replace hszL41 := Nat.le_trans hszL41 hE78.size
 replace hln47 := hln47.ext hE78
 replace hszL47 := Nat.le_trans hszL47 hE78.size
 replace hb48 := hb48.ext hE78
 replace hln50 := hln50.ext hE78
 replace hszL50 := Nat.le_trans hszL50 hE78.size
 replace hln51 := hln51.ext hE78
 replace hszL51 := Nat.le_trans hszL51 hE78.size
 replace hln52 := hln52.ext hE78
 replace hszL52 := Nat.le_trans hszL52 hE78.size
 replace hln53 := hln53.ext hE78
 replace hszL53 := Nat.le_trans hszL53 hE78.size
 replace hln54 := hln54.ext hE78
 replace hszL54 := Nat.le_trans hszL54 hE78.size
 replace hb55 := hb55.ext hE78
 replace hb56 := hb56.ext hE78
 replace hb57 := hb57.ext hE78
 replace hb58 := hb58.ext hE78
 replace hb59 := hb59.ext hE78
 replace ho65 := own_ext ho65 hE78
 replace ho68 := own_ext ho68 hE78
 replace hsz := Nat.le_trans hsz hE78.size
 refine l_q (q_move (v := .tuple _) rfl rfl) (l_q (q_extract (vs := [_, _]) (v := .slice _ _ _) rfl rfl rfl) (l_q (q_extract (vs := [_, _]) (v := .int _ _) rfl rfl rfl) (l_q (qai rfl rfl) (l_nil (r_seq (r_region' (l_q (q_load_agg (n := 5) Tryz.isAgg38 Tryz.sizeOf38 rfl ((hb48.cells' (cs' := [_, _, _, _, _]) 0 5 rfl)) rfl rfl) ?_)))))))
 have hv79 := assign6_ret ka47 kc47 cod3 1 sa47 sc47 [5, -1] ja47 jc47 (lineS x147 y147 x247 y247) ra47 rq47 (lineR ++ [rc4])  w78 hln47.at (big_lit (J := lineJ) rfl ⟨by decide, cod3_le⟩ (by decide) ⟨by decide, by decide⟩ ⟨by decide, by decide⟩ (by decide))
 rw [show lg cod3 1 [5, -1] (lineS x147 y147 x247 y247) (lineR ++ [rc4]) = lineL [rc4] from rfl, assign_line4] at hv79
 refine l_o (o_call Tryz.call36 rfl (hv79) rfl ?_)
 rintro _ w80 ⟨a80_0, c80_0, rfl, hr80_0, hE80⟩
 replace hB := below_ext hB hE80 hsz
 replace hszL1 := Nat.le_trans hszL1 hE80.size
 replace hszL4 := Nat.le_trans hszL4 hE80.size
 replace hszL8 := Nat.le_trans hszL8 hE80.size
 replace hszL11 := Nat.le_trans hszL11 hE80.size
 replace hszL25 := Nat.le_trans hszL25 hE80.size
 replace hszL29 := Nat.le_trans hszL29 hE80.size
 replace hszL33 := Nat.le_trans hszL33 hE80.size
 replace hszL37 := Nat.le_trans hszL37 hE80.size
 replace hszL41 := Nat.le_trans hszL41 hE80.size
 replace hszL47 := Nat.le_trans hszL47 hE80.size
 replace hln50 := hln50.ext hE80
 replace hszL50 := Nat.le_trans hszL50 hE80.size
 replace hln51 := hln51.ext hE80
 replace hszL51 := Nat.le_trans hszL51 hE80.size
 replace hln52 := hln52.ext hE80
 replace hszL52 := Nat.le_trans hszL52 hE80.size
 replace hln53 := hln53.ext hE80
 replace hszL53 := Nat.le_trans hszL53 hE80.size
 replace hln54 := hln54.ext hE80
 replace hszL54 := Nat.le_trans hszL54 hE80.size
 replace hb55 := hb55.ext hE80
 replace hb56 := hb56.ext hE80
 replace hb57 := hb57.ext hE80
 replace hb58 := hb58.ext hE80
 replace hb59 := hb59.ext hE80
 replace ho65 := own_ext ho65 hE80
 replace ho68 := own_ext ho68 hE80
 replace hsz := Nat.le_trans hsz hE80.size
 refine l_q (q_move (v := .tuple _) rfl rfl) (l_q (q_extract (vs := [_, _]) (v := .slice _ _ _) rfl rfl rfl) (l_q (q_extract (vs := [_, _]) (v := .int _ _) rfl rfl rfl) (l_q (qai rfl rfl) (l_nil (r_forget [(2, .int _ _), (4, .int _ _), (10, .pointer _), (11, .pointer _), (12, .pointer _), (13, .pointer _), (14, .pointer _)] ⟨rfl, rfl, rfl, rfl, rfl, rfl, rfl, trivial⟩ (fun e81 => (r_seq (r_region' (l_o (o_call Tryz.call49 rfl (line7_ret none 0 [] _ (Row.nil _ _ _ _) (by decide)) rfl ?_))))))))))
 rintro _ w82 ⟨B282, ka82, kc82, sa82, sc82, ja82, jc82, x182, y182, x282, y282, ra82, rq82, rfl, hln82, hE82⟩
 have hszk1_82 := hszL1
 have hszk4_82 := hszL4
 have hszk8_82 := hszL8
 have hszk11_82 := hszL11
 have hszk25_82 := hszL25
 have hszk29_82 := hszL29
 have hszk33_82 := hszL33
 have hszk37_82 := hszL37
 have hszk41_82 := hszL41
 have hszk47_82 := hszL47
 have hszk50_82 := hszL50
 have hszk51_82 := hszL51
 have hszk52_82 := hszL52
 have hszk53_82 := hszL53
 have hszk54_82 := hszL54
 have hszw82 : w.heap.size ≤ w80.heap.size := hsz
 have hszi82 := hE82.size
 replace hB := below_ext hB hE82 hsz
 replace hszL1 := Nat.le_trans hszL1 hE82.size
 replace hszL4 := Nat.le_trans hszL4 hE82.size
 replace hszL8 := Nat.le_trans hszL8 hE82.size
 replace hszL11 := Nat.le_trans hszL11 hE82.size
 replace hszL25 := Nat.le_trans hszL25 hE82.size
 replace hszL29 := Nat.le_trans hszL29 hE82.size
 replace hszL33 := Nat.le_trans hszL33 hE82.size
 replace hszL37 := Nat.le_trans hszL37 hE82.size
 replace hszL41 := Nat.le_trans hszL41 hE82.size
 replace hszL47 := Nat.le_trans hszL47 hE82.size
 replace hln50 := hln50.ext hE82
 replace hszL50 := Nat.le_trans hszL50 hE82.size
 replace hln51 := hln51.ext hE82
 replace hszL51 := Nat.le_trans hszL51 hE82.size
 replace hln52 := hln52.ext hE82
 replace hszL52 := Nat.le_trans hszL52 hE82.size
 replace hln53 := hln53.ext hE82
 replace hszL53 := Nat.le_trans hszL53 hE82.size
 replace hln54 := hln54.ext hE82
 replace hszL54 := Nat.le_trans hszL54 hE82.size
 replace hb55 := hb55.ext hE82
 replace hb56 := hb56.ext hE82
 replace hb57 := hb57.ext hE82
 replace hb58 := hb58.ext hE82
 replace hb59 := hb59.ext hE82
 replace ho65 := own_ext ho65 hE82
 replace ho68 := own_ext ho68 hE82
 replace hsz := Nat.le_trans hsz hE82.size
 have hszL82 : w82.heap.size ≤ w82.heap.size := Nat.le_refl _
 have hv83 := mMasked_ret ka82 kc82 cod3 1 sa82 sc82 [5, -1] ja82 jc82 (lineS x182 y182 x282 y282) ra82 rq82 (lineR ++ []) 0 w82 hln82.at (big_lit (J := lineJ) rfl ⟨by decide, cod3_le⟩ (by decide) ⟨by decide, by decide⟩ ⟨by decide, by decide⟩ (by decide))
 rw [show lg cod3 1 [5, -1] (lineS x182 y182 x282 y282) (lineR ++ []) = lineL [] from rfl, masked_line0] at hv83
 refine l_o (o_call Tryz.call27 rfl (hv83) rfl ?_)
 rintro _ w84 ⟨a84_0, c84_0, rfl, hr84_0, hE84⟩
 replace hB := below_ext hB hE84 hsz
 replace hszL1 := Nat.le_trans hszL1 hE84.size
 replace hszL4 := Nat.le_trans hszL4 hE84.size
 replace hszL8 := Nat.le_trans hszL8 hE84.size
 replace hszL11 := Nat.le_trans hszL11 hE84.size
 replace hszL25 := Nat.le_trans hszL25 hE84.size
 replace hszL29 := Nat.le_trans hszL29 hE84.size
 replace hszL33 := Nat.le_trans hszL33 hE84.size
 replace hszL37 := Nat.le_trans hszL37 hE84.size
 replace hszL41 := Nat.le_trans hszL41 hE84.size
 replace hszL47 := Nat.le_trans hszL47 hE84.size
 replace hln50 := hln50.ext hE84
 replace hszL50 := Nat.le_trans hszL50 hE84.size
 replace hln51 := hln51.ext hE84
 replace hszL51 := Nat.le_trans hszL51 hE84.size
 replace hln52 := hln52.ext hE84
 replace hszL52 := Nat.le_trans hszL52 hE84.size
 replace hln53 := hln53.ext hE84
 replace hszL53 := Nat.le_trans hszL53 hE84.size
 replace hln54 := hln54.ext hE84
 replace hszL54 := Nat.le_trans hszL54 hE84.size
 replace hb55 := hb55.ext hE84
 replace hb56 := hb56.ext hE84
 replace hb57 := hb57.ext hE84
 replace hb58 := hb58.ext hE84
 replace hb59 := hb59.ext hE84
 replace ho65 := own_ext ho65 hE84
 replace ho68 := own_ext ho68 hE84
 replace hszL82 := Nat.le_trans hszL82 hE84.size
 replace hsz := Nat.le_trans hsz hE84.size
 refine l_q (q_move (v := .tuple _) rfl rfl) (l_q (q_extract (vs := [_, _]) (v := .slice _ _ _) rfl rfl rfl) (l_q (q_extract (vs := [_, _]) (v := .int _ _) rfl rfl rfl) (l_q (qai rfl rfl) (l_nil (r_seq (r_region' (l_o (o_call Tryz.call49 rfl (line7_ret none 0 [] _ (Row.nil _ _ _ _) (by decide)) rfl ?_))))))))
 rintro _ w85 ⟨B285, ka85, kc85, sa85, sc85, ja85, jc85, x185, y185, x285, y285, ra85, rq85, rfl, hln85, hE85⟩
 have hszk1_85 := hszL1
 have hszk4_85 := hszL4
 have hszk8_85 := hszL8
 have hszk11_85 := hszL11
 have hszk25_85 := hszL25
 have hszk29_85 := hszL29
 have hszk33_85 := hszL33
 have hszk37_85 := hszL37
 have hszk41_85 := hszL41
 have hszk47_85 := hszL47
 have hszk50_85 := hszL50
 have hszk51_85 := hszL51
 have hszk52_85 := hszL52
 have hszk53_85 := hszL53
 have hszk54_85 := hszL54
 have hszk82_85 := hszL82
 have hszw85 : w.heap.size ≤ w84.heap.size := hsz
 have hszi85 := hE85.size
 replace hB := below_ext hB hE85 hsz
 replace hszL1 := Nat.le_trans hszL1 hE85.size
 replace hszL4 := Nat.le_trans hszL4 hE85.size
 replace hszL8 := Nat.le_trans hszL8 hE85.size
 replace hszL11 := Nat.le_trans hszL11 hE85.size
 replace hszL25 := Nat.le_trans hszL25 hE85.size
 replace hszL29 := Nat.le_trans hszL29 hE85.size
 replace hszL33 := Nat.le_trans hszL33 hE85.size
 replace hszL37 := Nat.le_trans hszL37 hE85.size
 replace hszL41 := Nat.le_trans hszL41 hE85.size
 replace hszL47 := Nat.le_trans hszL47 hE85.size
 replace hln50 := hln50.ext hE85
 replace hszL50 := Nat.le_trans hszL50 hE85.size
 replace hln51 := hln51.ext hE85
 replace hszL51 := Nat.le_trans hszL51 hE85.size
 replace hln52 := hln52.ext hE85
 replace hszL52 := Nat.le_trans hszL52 hE85.size
 replace hln53 := hln53.ext hE85
 replace hszL53 := Nat.le_trans hszL53 hE85.size
 replace hln54 := hln54.ext hE85
 replace hszL54 := Nat.le_trans hszL54 hE85.size
 replace hb55 := hb55.ext hE85
 replace hb56 := hb56.ext hE85
 replace hb57 := hb57.ext hE85
 replace hb58 := hb58.ext hE85
 replace hb59 := hb59.ext hE85
 replace ho65 := own_ext ho65 hE85
 replace ho68 := own_ext ho68 hE85
 replace hszL82 := Nat.le_trans hszL82 hE85.size
 replace hsz := Nat.le_trans hsz hE85.size
 have hszL85 : w85.heap.size ≤ w85.heap.size := Nat.le_refl _
 have hv86 := own6_ret ka85 kc85 cod3 1 sa85 sc85 [5, -1] ja85 jc85 (lineS x185 y185 x285 y285) ra85 rq85 (lineR ++ []) 3 w85 hln85.at (big_lit (J := lineJ) rfl ⟨by decide, cod3_le⟩ (by decide) ⟨by decide, by decide⟩ ⟨by decide, by decide⟩ (by decide))
 rw [show lg cod3 1 [5, -1] (lineS x185 y185 x285 y285) (lineR ++ []) = lineL [] from rfl, own_line3] at hv86
 refine l_o (o_call Tryz.call21 rfl (hv86) rfl ?_)
 rintro _ w87 ⟨a87_0, c87_0, rfl, hr87_0, hE87⟩
 replace hB := below_ext hB hE87 hsz
 replace hszL1 := Nat.le_trans hszL1 hE87.size
 replace hszL4 := Nat.le_trans hszL4 hE87.size
 replace hszL8 := Nat.le_trans hszL8 hE87.size
 replace hszL11 := Nat.le_trans hszL11 hE87.size
 replace hszL25 := Nat.le_trans hszL25 hE87.size
 replace hszL29 := Nat.le_trans hszL29 hE87.size
 replace hszL33 := Nat.le_trans hszL33 hE87.size
 replace hszL37 := Nat.le_trans hszL37 hE87.size
 replace hszL41 := Nat.le_trans hszL41 hE87.size
 replace hszL47 := Nat.le_trans hszL47 hE87.size
 replace hln50 := hln50.ext hE87
 replace hszL50 := Nat.le_trans hszL50 hE87.size
 replace hln51 := hln51.ext hE87
 replace hszL51 := Nat.le_trans hszL51 hE87.size
 replace hln52 := hln52.ext hE87
 replace hszL52 := Nat.le_trans hszL52 hE87.size
 replace hln53 := hln53.ext hE87
 replace hszL53 := Nat.le_trans hszL53 hE87.size
 replace hln54 := hln54.ext hE87
 replace hszL54 := Nat.le_trans hszL54 hE87.size
 replace hb55 := hb55.ext hE87
 replace hb56 := hb56.ext hE87
 replace hb57 := hb57.ext hE87
 replace hb58 := hb58.ext hE87
 replace hb59 := hb59.ext hE87
 replace ho65 := own_ext ho65 hE87
 replace ho68 := own_ext ho68 hE87
 replace hszL82 := Nat.le_trans hszL82 hE87.size
 replace hszL85 := Nat.le_trans hszL85 hE87.size
 replace hsz := Nat.le_trans hsz hE87.size
 refine l_q (q_move (v := .tuple _) rfl rfl) (l_q (q_extract (vs := [_, _]) (v := .slice _ _ _) rfl rfl rfl) (l_q (q_extract (vs := [_, _]) (v := .int _ _) rfl rfl rfl) (l_q (qai rfl rfl) (l_nil (r_forget [(2, .int _ _), (4, .int _ _), (6, .int _ _), (8, .int _ _), (10, .pointer _), (11, .pointer _), (12, .pointer _), (13, .pointer _), (14, .pointer _)] ⟨rfl, rfl, rfl, rfl, rfl, rfl, rfl, rfl, rfl, trivial⟩ (fun e88 => (r_seq (r_region' (l_o (o_call Tryz.call49 rfl (line7_ret none 0 [] _ (Row.nil _ _ _ _) (by decide)) rfl ?_))))))))))
 rintro _ w89 ⟨B289, ka89, kc89, sa89, sc89, ja89, jc89, x189, y189, x289, y289, ra89, rq89, rfl, hln89, hE89⟩
 have hszk1_89 := hszL1
 have hszk4_89 := hszL4
 have hszk8_89 := hszL8
 have hszk11_89 := hszL11
 have hszk25_89 := hszL25
 have hszk29_89 := hszL29
 have hszk33_89 := hszL33
 have hszk37_89 := hszL37
 have hszk41_89 := hszL41
 have hszk47_89 := hszL47
 have hszk50_89 := hszL50
 have hszk51_89 := hszL51
 have hszk52_89 := hszL52
 have hszk53_89 := hszL53
 have hszk54_89 := hszL54
 have hszk82_89 := hszL82
 have hszk85_89 := hszL85
 have hszw89 : w.heap.size ≤ w87.heap.size := hsz
 have hszi89 := hE89.size
 replace hB := below_ext hB hE89 hsz
 replace hszL1 := Nat.le_trans hszL1 hE89.size
 replace hszL4 := Nat.le_trans hszL4 hE89.size
 replace hszL8 := Nat.le_trans hszL8 hE89.size
 replace hszL11 := Nat.le_trans hszL11 hE89.size
 replace hszL25 := Nat.le_trans hszL25 hE89.size
 replace hszL29 := Nat.le_trans hszL29 hE89.size
 replace hszL33 := Nat.le_trans hszL33 hE89.size
 replace hszL37 := Nat.le_trans hszL37 hE89.size
 replace hszL41 := Nat.le_trans hszL41 hE89.size
 replace hszL47 := Nat.le_trans hszL47 hE89.size
 replace hln50 := hln50.ext hE89
 replace hszL50 := Nat.le_trans hszL50 hE89.size
 replace hln51 := hln51.ext hE89
 replace hszL51 := Nat.le_trans hszL51 hE89.size
 replace hln52 := hln52.ext hE89
 replace hszL52 := Nat.le_trans hszL52 hE89.size
 replace hln53 := hln53.ext hE89
 replace hszL53 := Nat.le_trans hszL53 hE89.size
 replace hln54 := hln54.ext hE89
 replace hszL54 := Nat.le_trans hszL54 hE89.size
 replace hb55 := hb55.ext hE89
 replace hb56 := hb56.ext hE89
 replace hb57 := hb57.ext hE89
 replace hb58 := hb58.ext hE89
 replace hb59 := hb59.ext hE89
 replace ho65 := own_ext ho65 hE89
 replace ho68 := own_ext ho68 hE89
 replace hszL82 := Nat.le_trans hszL82 hE89.size
 replace hszL85 := Nat.le_trans hszL85 hE89.size
 replace hsz := Nat.le_trans hsz hE89.size
 have hszL89 : w89.heap.size ≤ w89.heap.size := Nat.le_refl _
 have hv90 := mHeard_ret ka89 kc89 cod3 1 sa89 sc89 [5, -1] ja89 jc89 (lineS x189 y189 x289 y289) ra89 rq89 (lineR ++ []) 24 w89 hln89.at (big_lit (J := lineJ) rfl ⟨by decide, cod3_le⟩ (by decide) ⟨by decide, by decide⟩ ⟨by decide, by decide⟩ (by decide))
 rw [show lg cod3 1 [5, -1] (lineS x189 y189 x289 y289) (lineR ++ []) = lineL [] from rfl, heard_line24] at hv90
 refine l_o (o_call Tryz.call26 rfl (hv90) rfl ?_)
 rintro _ w91 ⟨ta91, tc91, D91, rfl, hrt91, hri91, hD91, hE91⟩
 replace hB := below_ext hB hE91 hsz
 replace hszL1 := Nat.le_trans hszL1 hE91.size
 replace hszL4 := Nat.le_trans hszL4 hE91.size
 replace hszL8 := Nat.le_trans hszL8 hE91.size
 replace hszL11 := Nat.le_trans hszL11 hE91.size
 replace hszL25 := Nat.le_trans hszL25 hE91.size
 replace hszL29 := Nat.le_trans hszL29 hE91.size
 replace hszL33 := Nat.le_trans hszL33 hE91.size
 replace hszL37 := Nat.le_trans hszL37 hE91.size
 replace hszL41 := Nat.le_trans hszL41 hE91.size
 replace hszL47 := Nat.le_trans hszL47 hE91.size
 replace hln50 := hln50.ext hE91
 replace hszL50 := Nat.le_trans hszL50 hE91.size
 replace hln51 := hln51.ext hE91
 replace hszL51 := Nat.le_trans hszL51 hE91.size
 replace hln52 := hln52.ext hE91
 replace hszL52 := Nat.le_trans hszL52 hE91.size
 replace hln53 := hln53.ext hE91
 replace hszL53 := Nat.le_trans hszL53 hE91.size
 replace hln54 := hln54.ext hE91
 replace hszL54 := Nat.le_trans hszL54 hE91.size
 replace hb55 := hb55.ext hE91
 replace hb56 := hb56.ext hE91
 replace hb57 := hb57.ext hE91
 replace hb58 := hb58.ext hE91
 replace hb59 := hb59.ext hE91
 replace ho65 := own_ext ho65 hE91
 replace ho68 := own_ext ho68 hE91
 replace hszL82 := Nat.le_trans hszL82 hE91.size
 replace hszL85 := Nat.le_trans hszL85 hE91.size
 replace hszL89 := Nat.le_trans hszL89 hE91.size
 replace hsz := Nat.le_trans hsz hE91.size
 refine l_q (q_move (v := .tuple _) rfl rfl) (l_q (q_extract (vs := [_, _]) (v := .slice _ _ _) rfl rfl rfl) (l_q (q_extract (vs := [_, _]) (v := .int _ _) rfl rfl rfl) (l_q (qas rfl rfl) (l_q (qai rfl rfl) (l_nil (r_seq (r_region' (l_o (o_call Tryz.call49 rfl (line7_ret none 0 [] _ (Row.nil _ _ _ _) (by decide)) rfl ?_)))))))))
 rintro _ w92 ⟨B292, ka92, kc92, sa92, sc92, ja92, jc92, x192, y192, x292, y292, ra92, rq92, rfl, hln92, hE92⟩
 have hszk1_92 := hszL1
 have hszk4_92 := hszL4
 have hszk8_92 := hszL8
 have hszk11_92 := hszL11
 have hszk25_92 := hszL25
 have hszk29_92 := hszL29
 have hszk33_92 := hszL33
 have hszk37_92 := hszL37
 have hszk41_92 := hszL41
 have hszk47_92 := hszL47
 have hszk50_92 := hszL50
 have hszk51_92 := hszL51
 have hszk52_92 := hszL52
 have hszk53_92 := hszL53
 have hszk54_92 := hszL54
 have hszk82_92 := hszL82
 have hszk85_92 := hszL85
 have hszk89_92 := hszL89
 have hszw92 : w.heap.size ≤ w91.heap.size := hsz
 have hszi92 := hE92.size
 replace hB := below_ext hB hE92 hsz
 replace hszL1 := Nat.le_trans hszL1 hE92.size
 replace hszL4 := Nat.le_trans hszL4 hE92.size
 replace hszL8 := Nat.le_trans hszL8 hE92.size
 replace hszL11 := Nat.le_trans hszL11 hE92.size
 replace hszL25 := Nat.le_trans hszL25 hE92.size
 replace hszL29 := Nat.le_trans hszL29 hE92.size
 replace hszL33 := Nat.le_trans hszL33 hE92.size
 replace hszL37 := Nat.le_trans hszL37 hE92.size
 replace hszL41 := Nat.le_trans hszL41 hE92.size
 replace hszL47 := Nat.le_trans hszL47 hE92.size
 replace hln50 := hln50.ext hE92
 replace hszL50 := Nat.le_trans hszL50 hE92.size
 replace hln51 := hln51.ext hE92
 replace hszL51 := Nat.le_trans hszL51 hE92.size
 replace hln52 := hln52.ext hE92
 replace hszL52 := Nat.le_trans hszL52 hE92.size
 replace hln53 := hln53.ext hE92
 replace hszL53 := Nat.le_trans hszL53 hE92.size
 replace hln54 := hln54.ext hE92
 replace hszL54 := Nat.le_trans hszL54 hE92.size
 replace hb55 := hb55.ext hE92
 replace hb56 := hb56.ext hE92
 replace hb57 := hb57.ext hE92
 replace hb58 := hb58.ext hE92
 replace hb59 := hb59.ext hE92
 replace ho65 := own_ext ho65 hE92
 replace ho68 := own_ext ho68 hE92
 replace hszL82 := Nat.le_trans hszL82 hE92.size
 replace hszL85 := Nat.le_trans hszL85 hE92.size
 replace hszL89 := Nat.le_trans hszL89 hE92.size
 replace hsz := Nat.le_trans hsz hE92.size
 have hszL92 : w92.heap.size ≤ w92.heap.size := Nat.le_refl _
 have hv93 := mMasked_ret ka92 kc92 cod3 1 sa92 sc92 [5, -1] ja92 jc92 (lineS x192 y192 x292 y292) ra92 rq92 (lineR ++ []) (-1) w92 hln92.at (big_lit (J := lineJ) rfl ⟨by decide, cod3_le⟩ (by decide) ⟨by decide, by decide⟩ ⟨by decide, by decide⟩ (by decide))
 rw [show lg cod3 1 [5, -1] (lineS x192 y192 x292 y292) (lineR ++ []) = lineL [] from rfl, masked_linen] at hv93
 refine l_o (o_call Tryz.call27 rfl (hv93) rfl ?_)
 rintro _ w94 ⟨a94_0, c94_0, rfl, hr94_0, hE94⟩
 replace hB := below_ext hB hE94 hsz
 replace hszL1 := Nat.le_trans hszL1 hE94.size
 replace hszL4 := Nat.le_trans hszL4 hE94.size
 replace hszL8 := Nat.le_trans hszL8 hE94.size
 replace hszL11 := Nat.le_trans hszL11 hE94.size
 replace hszL25 := Nat.le_trans hszL25 hE94.size
 replace hszL29 := Nat.le_trans hszL29 hE94.size
 replace hszL33 := Nat.le_trans hszL33 hE94.size
 replace hszL37 := Nat.le_trans hszL37 hE94.size
 replace hszL41 := Nat.le_trans hszL41 hE94.size
 replace hszL47 := Nat.le_trans hszL47 hE94.size
 replace hln50 := hln50.ext hE94
 replace hszL50 := Nat.le_trans hszL50 hE94.size
 replace hln51 := hln51.ext hE94
 replace hszL51 := Nat.le_trans hszL51 hE94.size
 replace hln52 := hln52.ext hE94
 replace hszL52 := Nat.le_trans hszL52 hE94.size
 replace hln53 := hln53.ext hE94
 replace hszL53 := Nat.le_trans hszL53 hE94.size
 replace hln54 := hln54.ext hE94
 replace hszL54 := Nat.le_trans hszL54 hE94.size
 replace hb55 := hb55.ext hE94
 replace hb56 := hb56.ext hE94
 replace hb57 := hb57.ext hE94
 replace hb58 := hb58.ext hE94
 replace hb59 := hb59.ext hE94
 replace ho65 := own_ext ho65 hE94
 replace ho68 := own_ext ho68 hE94
 replace hszL82 := Nat.le_trans hszL82 hE94.size
 replace hszL85 := Nat.le_trans hszL85 hE94.size
 replace hszL89 := Nat.le_trans hszL89 hE94.size
 replace hszL92 := Nat.le_trans hszL92 hE94.size
 replace hsz := Nat.le_trans hsz hE94.size
 refine l_q (q_move (v := .tuple _) rfl rfl) (l_q (q_extract (vs := [_, _]) (v := .slice _ _ _) rfl rfl rfl) (l_q (q_extract (vs := [_, _]) (v := .int _ _) rfl rfl rfl) (l_q (qas rfl rfl) (l_q (qai rfl rfl) (l_nil (r_forget [(2, .int _ _), (4, .int _ _), (6, .int _ _), (8, .int _ _), (10, .pointer _), (11, .pointer _), (12, .pointer _), (13, .pointer _), (14, .pointer _), (16, .int _ _), (18, .int _ _)] ⟨rfl, rfl, rfl, rfl, rfl, rfl, rfl, rfl, rfl, rfl, rfl, trivial⟩ (fun e95 => (r_seq (r_region' (l_q (qmi rfl rfl) (l_q (q_eql rfl rfl rfl) (l_q (qmb rfl rfl) ?_))))))))))))
 have hk96 : (decide (11 = 11)) = true := by decide
 refine l_part 157 rfl (fun _ => ?_) (fun hx => absurd (hk96.symm.trans hx) (by decide))
 refine l_q (qmi rfl rfl) (l_q (q_eql rfl rfl rfl) (l_q (q_pick_t (v := .bool _) rfl rfl rfl) (l_q (qmb rfl rfl) ?_)))
 have hk97 : (decide (11 = 11)) = true := by decide
 refine l_part 161 rfl (fun _ => ?_) (fun hx => absurd (hk97.symm.trans hx) (by decide))
 refine l_q (qmi rfl rfl) (l_q (q_eql rfl rfl rfl) (l_q (q_pick_t (v := .bool _) rfl rfl rfl) (l_q (qmb rfl rfl) ?_)))
 have hk98 : (decide (7 = 7)) = true := by decide
 refine l_part 165 rfl (fun _ => ?_) (fun hx => absurd (hk98.symm.trans hx) (by decide))
 refine l_q (qmi rfl rfl) (l_q (q_eql rfl rfl rfl) (l_q (q_pick_t (v := .bool _) rfl rfl rfl) (l_q (qmb rfl rfl) ?_)))
 have hk99 : (decide (2 = 2)) = true := by decide
 refine l_part 169 rfl (fun _ => ?_) (fun hx => absurd (hk99.symm.trans hx) (by decide))
 refine l_q (qmi rfl rfl) (l_q (q_eql rfl rfl rfl) (l_q (q_pick_t (v := .bool _) rfl rfl rfl) (l_q (qmb rfl rfl) ?_)))
 have hk100 : (decide (2 = 2)) = true := by decide
 refine l_part 173 rfl (fun _ => ?_) (fun hx => absurd (hk100.symm.trans hx) (by decide))
 refine l_q (qmi rfl rfl) (l_q (q_eql rfl rfl rfl) (l_q (q_pick_t (v := .bool _) rfl rfl rfl) (l_q (qmb rfl rfl) ?_)))
 have hk101 : (decide (2 = 2)) = true := by decide
 refine l_part 177 rfl (fun _ => ?_) (fun hx => absurd (hk101.symm.trans hx) (by decide))
 refine l_q (q_load_agg (n := 5) Tryz.isAgg38 Tryz.sizeOf38 rfl ((hb55.cells' (cs' := [_, _, _, _, _]) 0 5 rfl)) rfl rfl) (l_o (o_call Tryz.call19 rfl (checkLog_ret ka50 kc50 cod3 1 (some ⟨b65, 0, none⟩) 5 (List.replicate 5 0) ja50 jc50 (lineS x150 y150 x250 y250) ra50 rq50 (lineR ++ []) _ ⟨hln50.at.rco, (Row.of_owns ho65), hln50.at.rsl, hln50.at.rslr, hln50.at.rrl⟩ (big_lit (J := lineJ) rfl ⟨by decide, cod3_le⟩ (by decide) ⟨by decide, by decide⟩ ⟨by decide, by decide⟩ (by decide))) rfl ?_))
 rintro _ w102 ⟨rfl, hE102⟩
 replace hB := below_ext hB hE102 hsz
 replace hszL1 := Nat.le_trans hszL1 hE102.size
 replace hszL4 := Nat.le_trans hszL4 hE102.size
 replace hszL8 := Nat.le_trans hszL8 hE102.size
 replace hszL11 := Nat.le_trans hszL11 hE102.size
 replace hszL25 := Nat.le_trans hszL25 hE102.size
 replace hszL29 := Nat.le_trans hszL29 hE102.size
 replace hszL33 := Nat.le_trans hszL33 hE102.size
 replace hszL37 := Nat.le_trans hszL37 hE102.size
 replace hszL41 := Nat.le_trans hszL41 hE102.size
 replace hszL47 := Nat.le_trans hszL47 hE102.size
 replace hszL50 := Nat.le_trans hszL50 hE102.size
 replace hln51 := hln51.ext hE102
 replace hszL51 := Nat.le_trans hszL51 hE102.size
 replace hln52 := hln52.ext hE102
 replace hszL52 := Nat.le_trans hszL52 hE102.size
 replace hln53 := hln53.ext hE102
 replace hszL53 := Nat.le_trans hszL53 hE102.size
 replace hln54 := hln54.ext hE102
 replace hszL54 := Nat.le_trans hszL54 hE102.size
 replace hb56 := hb56.ext hE102
 replace hb57 := hb57.ext hE102
 replace hb58 := hb58.ext hE102
 replace hb59 := hb59.ext hE102
 replace ho68 := own_ext ho68 hE102
 replace hszL82 := Nat.le_trans hszL82 hE102.size
 replace hszL85 := Nat.le_trans hszL85 hE102.size
 replace hszL89 := Nat.le_trans hszL89 hE102.size
 replace hszL92 := Nat.le_trans hszL92 hE102.size
 replace hsz := Nat.le_trans hsz hE102.size
 refine l_q (q_eql rfl rfl rfl) (l_q (q_pick_t (v := .bool _) rfl rfl rfl) (l_q (qmb rfl rfl) ?_))
 have hk103 : (decide ((faultM (lg cod3 1 (List.replicate 5 0) (lineS x150 y150 x250 y250) (lineR ++ []))) = 3)) = true := decide_eq_true (fault_many rfl)
 refine l_part 182 rfl (fun _ => ?_) (fun hx => absurd (hk103.symm.trans hx) (by decide))
 refine l_q (q_load_agg (n := 5) Tryz.isAgg38 Tryz.sizeOf38 rfl ((hb56.cells' (cs' := [_, _, _, _, _]) 0 5 rfl)) rfl rfl) (l_o (o_call Tryz.call19 rfl (checkLog_ret (some ⟨b68, 0, none⟩) 2 [[46], [46]] 1 sa51 sc51 [5, -1] ja51 jc51 (lineS x151 y151 x251 y251) ra51 rq51 (lineR ++ []) _ ⟨(Row.of_owns ho68), hln51.at.rse, hln51.at.rsl, hln51.at.rslr, hln51.at.rrl⟩ (big_lit (J := lineJ) rfl ⟨by decide, by decide⟩ (by decide) ⟨by decide, by decide⟩ ⟨by decide, by decide⟩ (by decide))) rfl ?_))
 rintro _ w104 ⟨rfl, hE104⟩
 replace hB := below_ext hB hE104 hsz
 replace hszL1 := Nat.le_trans hszL1 hE104.size
 replace hszL4 := Nat.le_trans hszL4 hE104.size
 replace hszL8 := Nat.le_trans hszL8 hE104.size
 replace hszL11 := Nat.le_trans hszL11 hE104.size
 replace hszL25 := Nat.le_trans hszL25 hE104.size
 replace hszL29 := Nat.le_trans hszL29 hE104.size
 replace hszL33 := Nat.le_trans hszL33 hE104.size
 replace hszL37 := Nat.le_trans hszL37 hE104.size
 replace hszL41 := Nat.le_trans hszL41 hE104.size
 replace hszL47 := Nat.le_trans hszL47 hE104.size
 replace hszL50 := Nat.le_trans hszL50 hE104.size
 replace hszL51 := Nat.le_trans hszL51 hE104.size
 replace hln52 := hln52.ext hE104
 replace hszL52 := Nat.le_trans hszL52 hE104.size
 replace hln53 := hln53.ext hE104
 replace hszL53 := Nat.le_trans hszL53 hE104.size
 replace hln54 := hln54.ext hE104
 replace hszL54 := Nat.le_trans hszL54 hE104.size
 replace hb57 := hb57.ext hE104
 replace hb58 := hb58.ext hE104
 replace hb59 := hb59.ext hE104
 replace hszL82 := Nat.le_trans hszL82 hE104.size
 replace hszL85 := Nat.le_trans hszL85 hE104.size
 replace hszL89 := Nat.le_trans hszL89 hE104.size
 replace hszL92 := Nat.le_trans hszL92 hE104.size
 replace hsz := Nat.le_trans hsz hE104.size
 refine l_q (q_eql rfl rfl rfl) (l_q (q_pick_t (v := .bool _) rfl rfl rfl) (l_q (qmb rfl rfl) ?_))
 have hk105 : (decide ((faultM (lg [[46], [46]] 1 [5, -1] (lineS x151 y151 x251 y251) (lineR ++ []))) = 1)) = true := decide_eq_true (fault_code rfl)
 refine l_part 187 rfl (fun _ => ?_) (fun hx => absurd (hk105.symm.trans hx) (by decide))
 refine l_q (q_load_agg (n := 5) Tryz.isAgg38 Tryz.sizeOf38 rfl ((hb57.cells' (cs' := [_, _, _, _, _]) 0 5 rfl)) rfl rfl) (l_o (o_call Tryz.call19 rfl (checkLog_ret ka52 kc52 cod3 1 sa52 sc52 [24, -1] ja52 jc52 (lineS x152 y152 x252 y252) ra52 rq52 (lineR ++ []) _ hln52.at (big_lit (J := lineJ) rfl ⟨by decide, cod3_le⟩ (by decide) ⟨by decide, by decide⟩ ⟨by decide, by decide⟩ (by decide))) rfl ?_))
 rintro _ w106 ⟨rfl, hE106⟩
 replace hB := below_ext hB hE106 hsz
 replace hszL1 := Nat.le_trans hszL1 hE106.size
 replace hszL4 := Nat.le_trans hszL4 hE106.size
 replace hszL8 := Nat.le_trans hszL8 hE106.size
 replace hszL11 := Nat.le_trans hszL11 hE106.size
 replace hszL25 := Nat.le_trans hszL25 hE106.size
 replace hszL29 := Nat.le_trans hszL29 hE106.size
 replace hszL33 := Nat.le_trans hszL33 hE106.size
 replace hszL37 := Nat.le_trans hszL37 hE106.size
 replace hszL41 := Nat.le_trans hszL41 hE106.size
 replace hszL47 := Nat.le_trans hszL47 hE106.size
 replace hszL50 := Nat.le_trans hszL50 hE106.size
 replace hszL51 := Nat.le_trans hszL51 hE106.size
 replace hszL52 := Nat.le_trans hszL52 hE106.size
 replace hln53 := hln53.ext hE106
 replace hszL53 := Nat.le_trans hszL53 hE106.size
 replace hln54 := hln54.ext hE106
 replace hszL54 := Nat.le_trans hszL54 hE106.size
 replace hb58 := hb58.ext hE106
 replace hb59 := hb59.ext hE106
 replace hszL82 := Nat.le_trans hszL82 hE106.size
 replace hszL85 := Nat.le_trans hszL85 hE106.size
 replace hszL89 := Nat.le_trans hszL89 hE106.size
 replace hszL92 := Nat.le_trans hszL92 hE106.size
 replace hsz := Nat.le_trans hsz hE106.size
 refine l_q (q_eql rfl rfl rfl) (l_q (q_pick_t (v := .bool _) rfl rfl rfl) (l_q (qmb rfl rfl) ?_))
 have hk107 : (decide ((faultM (lg cod3 1 [24, -1] (lineS x152 y152 x252 y252) (lineR ++ []))) = 1)) = true := decide_eq_true (fault_sees rfl)
 refine l_part 192 rfl (fun _ => ?_) (fun hx => absurd (hk107.symm.trans hx) (by decide))
 refine l_q (q_load_agg (n := 5) Tryz.isAgg38 Tryz.sizeOf38 rfl ((hb58.cells' (cs' := [_, _, _, _, _]) 0 5 rfl)) rfl rfl) (l_o (o_call Tryz.call19 rfl (checkLog_ret ka53 kc53 cod3 1 sa53 sc53 [5, -1] ja53 jc53 (lineT x253 y253) ra53 rq53 (lineR ++ []) _ hln53.at (big_lit (J := [⟨6, 0, []⟩, ⟨8, 1, [2]⟩]) rfl ⟨by decide, cod3_le⟩ (by decide) ⟨by decide, by decide⟩ ⟨by decide, by decide⟩ (by decide))) rfl ?_))
 rintro _ w108 ⟨rfl, hE108⟩
 replace hB := below_ext hB hE108 hsz
 replace hszL1 := Nat.le_trans hszL1 hE108.size
 replace hszL4 := Nat.le_trans hszL4 hE108.size
 replace hszL8 := Nat.le_trans hszL8 hE108.size
 replace hszL11 := Nat.le_trans hszL11 hE108.size
 replace hszL25 := Nat.le_trans hszL25 hE108.size
 replace hszL29 := Nat.le_trans hszL29 hE108.size
 replace hszL33 := Nat.le_trans hszL33 hE108.size
 replace hszL37 := Nat.le_trans hszL37 hE108.size
 replace hszL41 := Nat.le_trans hszL41 hE108.size
 replace hszL47 := Nat.le_trans hszL47 hE108.size
 replace hszL50 := Nat.le_trans hszL50 hE108.size
 replace hszL51 := Nat.le_trans hszL51 hE108.size
 replace hszL52 := Nat.le_trans hszL52 hE108.size
 replace hszL53 := Nat.le_trans hszL53 hE108.size
 replace hln54 := hln54.ext hE108
 replace hszL54 := Nat.le_trans hszL54 hE108.size
 replace hb59 := hb59.ext hE108
 replace hszL82 := Nat.le_trans hszL82 hE108.size
 replace hszL85 := Nat.le_trans hszL85 hE108.size
 replace hszL89 := Nat.le_trans hszL89 hE108.size
 replace hszL92 := Nat.le_trans hszL92 hE108.size
 replace hsz := Nat.le_trans hsz hE108.size
 refine l_q (q_eql rfl rfl rfl) (l_q (q_pick_t (v := .bool _) rfl rfl rfl) (l_q (qmb rfl rfl) ?_))
 have hk109 : (decide ((faultM (lg cod3 1 [5, -1] (lineT x253 y253) (lineR ++ []))) = 1)) = true := decide_eq_true fault_text
 refine l_part 197 rfl (fun _ => ?_) (fun hx => absurd (hk109.symm.trans hx) (by decide))
 refine l_q (q_load_agg (n := 5) Tryz.isAgg38 Tryz.sizeOf38 rfl ((hb59.cells' (cs' := [_, _, _, _, _]) 0 5 rfl)) rfl rfl) (l_o (o_call Tryz.call19 rfl (checkLog_ret ka54 kc54 cod3 1 sa54 sc54 [5, -1] ja54 jc54 (lineS x154 y154 x254 y254) ra54 rq54 lineX _ hln54.at (big_lit (J := lineJ) rfl ⟨by decide, cod3_le⟩ (by decide) ⟨by decide, by decide⟩ ⟨by decide, by decide⟩ (by decide))) rfl ?_))
 rintro _ w110 ⟨rfl, hE110⟩
 replace hB := below_ext hB hE110 hsz
 replace hszL1 := Nat.le_trans hszL1 hE110.size
 replace hszL4 := Nat.le_trans hszL4 hE110.size
 replace hszL8 := Nat.le_trans hszL8 hE110.size
 replace hszL11 := Nat.le_trans hszL11 hE110.size
 replace hszL25 := Nat.le_trans hszL25 hE110.size
 replace hszL29 := Nat.le_trans hszL29 hE110.size
 replace hszL33 := Nat.le_trans hszL33 hE110.size
 replace hszL37 := Nat.le_trans hszL37 hE110.size
 replace hszL41 := Nat.le_trans hszL41 hE110.size
 replace hszL47 := Nat.le_trans hszL47 hE110.size
 replace hszL50 := Nat.le_trans hszL50 hE110.size
 replace hszL51 := Nat.le_trans hszL51 hE110.size
 replace hszL52 := Nat.le_trans hszL52 hE110.size
 replace hszL53 := Nat.le_trans hszL53 hE110.size
 replace hszL54 := Nat.le_trans hszL54 hE110.size
 replace hszL82 := Nat.le_trans hszL82 hE110.size
 replace hszL85 := Nat.le_trans hszL85 hE110.size
 replace hszL89 := Nat.le_trans hszL89 hE110.size
 replace hszL92 := Nat.le_trans hszL92 hE110.size
 replace hsz := Nat.le_trans hsz hE110.size
 refine l_q (q_eql rfl rfl rfl) (l_q (q_pick_t (v := .bool _) rfl rfl rfl) (l_q (qmb rfl rfl) ?_))
 have hk111 : (decide ((faultM (lg cod3 1 [5, -1] (lineS x154 y154 x254 y254) lineX)) = 1)) = true := decide_eq_true (fault_read rfl)
 refine l_part 202 rfl (fun _ => ?_) (fun hx => absurd (hk111.symm.trans hx) (by decide))
 refine l_q (q_build (v := .agg ⟨[.slice none 0 0, vint 0, .slice none 0 0, .slice none 0 0, .slice none 0 0]⟩) (fun w => by kernel_rfl) rfl) (l_o (o_call Tryz.call19 rfl (checkLog_ret none 0 ([] : List Sg) 0 none 0 ([] : List Int) none 0 [] none 0 [] _ ⟨(Row.nil _ _ _ _), (Row.nil _ _ _ _), (Row.nil _ _ _ _), (fun p hp => by cases hp), (Row.nil _ _ _ _)⟩ (big_lit (J := []) rfl ⟨by decide, by decide⟩ (by decide) ⟨by decide, by decide⟩ ⟨by decide, by decide⟩ (by decide))) rfl ?_))
 rintro _ w112 ⟨rfl, hE112⟩
 replace hB := below_ext hB hE112 hsz
 replace hszL1 := Nat.le_trans hszL1 hE112.size
 replace hszL4 := Nat.le_trans hszL4 hE112.size
 replace hszL8 := Nat.le_trans hszL8 hE112.size
 replace hszL11 := Nat.le_trans hszL11 hE112.size
 replace hszL25 := Nat.le_trans hszL25 hE112.size
 replace hszL29 := Nat.le_trans hszL29 hE112.size
 replace hszL33 := Nat.le_trans hszL33 hE112.size
 replace hszL37 := Nat.le_trans hszL37 hE112.size
 replace hszL41 := Nat.le_trans hszL41 hE112.size
 replace hszL47 := Nat.le_trans hszL47 hE112.size
 replace hszL50 := Nat.le_trans hszL50 hE112.size
 replace hszL51 := Nat.le_trans hszL51 hE112.size
 replace hszL52 := Nat.le_trans hszL52 hE112.size
 replace hszL53 := Nat.le_trans hszL53 hE112.size
 replace hszL54 := Nat.le_trans hszL54 hE112.size
 replace hszL82 := Nat.le_trans hszL82 hE112.size
 replace hszL85 := Nat.le_trans hszL85 hE112.size
 replace hszL89 := Nat.le_trans hszL89 hE112.size
 replace hszL92 := Nat.le_trans hszL92 hE112.size
 replace hsz := Nat.le_trans hsz hE112.size
 refine l_q (q_eql rfl rfl rfl) (l_q (q_pick_t (v := .bool _) rfl rfl rfl) (l_q (qmb rfl rfl) ?_))
 have hk113 : (decide ((faultM (lg ([] : List Sg) 0 ([] : List Int) [] [])) = 1)) = true := decide_eq_true fault_nil
 refine l_part 207 rfl (fun _ => ?_) (fun hx => absurd (hk113.symm.trans hx) (by decide))
 refine l_o (o_call Tryz.call18 rfl (awake6_ret _) rfl ?_)
 rintro _ w114 ⟨rfl, hE114⟩
 replace hB := below_ext hB hE114 hsz
 replace hszL1 := Nat.le_trans hszL1 hE114.size
 replace hszL4 := Nat.le_trans hszL4 hE114.size
 replace hszL8 := Nat.le_trans hszL8 hE114.size
 replace hszL11 := Nat.le_trans hszL11 hE114.size
 replace hszL25 := Nat.le_trans hszL25 hE114.size
 replace hszL29 := Nat.le_trans hszL29 hE114.size
 replace hszL33 := Nat.le_trans hszL33 hE114.size
 replace hszL37 := Nat.le_trans hszL37 hE114.size
 replace hszL41 := Nat.le_trans hszL41 hE114.size
 replace hszL47 := Nat.le_trans hszL47 hE114.size
 replace hszL50 := Nat.le_trans hszL50 hE114.size
 replace hszL51 := Nat.le_trans hszL51 hE114.size
 replace hszL52 := Nat.le_trans hszL52 hE114.size
 replace hszL53 := Nat.le_trans hszL53 hE114.size
 replace hszL54 := Nat.le_trans hszL54 hE114.size
 replace hszL82 := Nat.le_trans hszL82 hE114.size
 replace hszL85 := Nat.le_trans hszL85 hE114.size
 replace hszL89 := Nat.le_trans hszL89 hE114.size
 replace hszL92 := Nat.le_trans hszL92 hE114.size
 replace hsz := Nat.le_trans hsz hE114.size
 refine l_q (q_pick_t (v := .bool _) rfl rfl rfl) (l_q (qab rfl rfl) (l_nil (r_forget [(0, .bool _)] ⟨rfl, trivial⟩ (fun e115 => (r_ret_ (vs := [.bool _]) rfl Tryz.func14 rfl (.nil _) ⟨rfl, trivial⟩ ?_)))))
 exact ⟨rfl, Ext.of_below hB⟩
end Go.Proofs.YtekkdhpgcilpdaaGreat
