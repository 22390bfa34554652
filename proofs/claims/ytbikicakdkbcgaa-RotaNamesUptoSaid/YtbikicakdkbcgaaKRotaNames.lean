/- Contracts. -/
import Derived.Test.YtbikicakdkbcgaaR31
set_option linter.unusedVariables false
set_option linter.unusedSimpArgs false
namespace Go.Proofs.Ytbikicakdkbcgaa
open Go Go.RowKit Go.Gv Go.Fl


set_option maxHeartbeats 8000000 in
theorem rotaNames_ret (w : World) : Ret Try.prog 3 [] w (fun v w' => v = .bool true ∧ Ext w w') := by
 have hB := Below.refl w.heap.size w
 have hsz : w.heap.size ≤ w.heap.size := Nat.le_refl _
 refine ret_of_runs (args := []) Try.func3 rfl (Nat.le_of_ble_eq_true rfl) (by kernel_rfl) (r_seq (r_region' (l_q (qab rfl rfl) (l_nil (r_seq (r_region' (l_o (o_buildSlice (el := 3) (cs := [vint (-1), vint 3, vint (-1)]) Try.underlying26 el3 (by decide) (by kernel_rfl) rfl (by decide) rfl ?_))))))))
 intro b1 w1 hzl1 hzr1 _ hb1 hE1 ho1
 have hszq1 : w.heap.size ≤ w.heap.size := hsz
 have hbs_b1 : w.heap.size ≤ b1 := Nat.le_trans hsz hzl1
 replace hB := below_ext hB hE1 hsz
 replace hsz := Nat.le_trans hsz hE1.size
 refine l_o (o_buildSlice (el := 26) (cs := [.slice (some ⟨b1, 0, none⟩) 3 3]) Try.underlying22 el26 (by decide) (by kernel_rfl) rfl (by decide) rfl ?_)
 intro b2 w2 hzl2 hzr2 _ hb2 hE2 ho2
 have hszq2 : w.heap.size ≤ w1.heap.size := hsz
 have hbs_b2 : w.heap.size ≤ b2 := Nat.le_trans hsz hzl2
 replace hB := below_ext hB hE2 hsz
 replace ho1 := own_ext ho1 hE2
 replace hsz := Nat.le_trans hsz hE2.size
 have hos2 : OwnsI w2 w.heap.size 3 ([⟨some ⟨b1, 0, none⟩, 3, [(-1), 3, (-1)]⟩] : List SV) := OwnsI.snoc (OwnsI.nil _ _ _) (own_mono ho1 (by omega))
 refine l_o (o_call Try.call5 rfl (tower_ret _ _ ([⟨some ⟨b1, 0, none⟩, 3, [(-1), 3, (-1)]⟩] : List SV) _ (Row.of_owns ho2) hos2.rows (by simp) (by simp)) rfl ?_)
 rintro _ w3 ⟨pna3, pnc3, ppa3, ppc3, ppl3, pca3, pcc3, pL3, rfl, hpo3, hpp3, hpL3, hE3⟩
 replace hB := below_ext hB hE3 hsz
 replace hsz := Nat.le_trans hsz hE3.size
 replace hpL3 : pL3.map (·.xs) = towL5.map (·.xs) := hpL3
 have hbg3 := post_big hpp3 hpL3 towL5_big
 refine l_o (o_call Try.call4 rfl ((by have h := best_ret pna3 pnc3 towN ppa3 ppc3 ppl3 pca3 pcc3 pL3 _ hpo3 hbg3.1 hbg3.2.1 hbg3.2.2.1 hbg3.2.2.2.1; rw [best_pn hpp3 hpL3, tow_best5] at h; exact h)) rfl ?_)
 rintro _ w4 ⟨ra4, rc4, R4, rfl, hRo4, hRs4, hRm4, hE4⟩
 replace hB := below_ext hB hE4 hsz
 replace hsz := Nat.le_trans hsz hE4.size
 have hR4 := Row.of_owns hRo4
 have hRr4 := hRs4.rows
 refine l_q (q_move (v := .tuple _) rfl rfl) (l_q (q_extract (vs := [_, _, _]) (v := .slice _ _ _) rfl rfl rfl) (l_q (q_extract (vs := [_, _, _]) (v := .int _ _) rfl rfl rfl) (l_q (q_extract (vs := [_, _, _]) (v := .int _ _) rfl rfl rfl) (l_q (qas rfl rfl) (l_q (qai rfl rfl) (l_q (qai rfl rfl) (l_nil (r_seq (r_region' (l_o (o_call Try.call7 rfl (glass_ret _) rfl ?_)))))))))))
 rintro _ w5 ⟨ga5, gc5, rfl, hgl5, hE5⟩
 replace hB := below_ext hB hE5 hsz
 replace hR4 := hR4.ext hE5
 replace hRr4 := hRr4.ext hE5
 replace hsz := Nat.le_trans hsz hE5.size
 refine l_o (o_call Try.call6 rfl ((by have h := bright_ret 60 ga5 gc5 glassG none 0 [] _ hgl5 (by decide) (Row.nil _ _ _ _) (by decide); rw [glass_bright0] at h; exact h)) rfl ?_)
 rintro _ w6 ⟨ba6, bc6, rfl, hbr6, hE6⟩
 replace hB := below_ext hB hE6 hsz
 replace hR4 := hR4.ext hE6
 replace hRr4 := hRr4.ext hE6
 replace hsz := Nat.le_trans hsz hE6.size
 refine l_q (q_move (v := .tuple _) rfl rfl) (l_q (q_extract (vs := [_, _]) (v := .slice _ _ _) rfl rfl rfl) (l_q (q_extract (vs := [_, _]) (v := .int _ _) rfl rfl rfl) (l_q (qas rfl rfl) (l_q (qai rfl rfl) (l_nil (r_forget [(1, .slice _ _ _), (2, .int _ _), (3, .int _ _), (4, .slice _ _ _), (5, .int _ _)] ⟨rfl, rfl, rfl, rfl, rfl, trivial⟩ (fun e7 => (r_seq (r_region' (l_o (o_call Try.call5 rfl (tower_ret none 0 [] _ (Row.nil _ _ _ _) (RowsI.nil _) (by decide) (by simp)) rfl ?_)))))))))))
 rintro _ w8 ⟨pna8, pnc8, ppa8, ppc8, ppl8, pca8, pcc8, pL8, rfl, hpo8, hpp8, hpL8, hE8⟩
 replace hB := below_ext hB hE8 hsz
 replace hR4 := hR4.ext hE8
 replace hRr4 := hRr4.ext hE8
 replace hbr6 := hbr6.ext hE8
 replace hsz := Nat.le_trans hsz hE8.size
 replace hpL8 : pL8.map (·.xs) = towL.map (·.xs) := hpL8
 have hbg8 := post_big hpp8 hpL8 towL_big
 refine l_o (o_buildSlice (el := 3) (cs := [vint 0]) Try.underlying26 el3 (by decide) (by kernel_rfl) rfl (by decide) rfl ?_)
 intro b9 w9 hzl9 hzr9 _ hb9 hE9 ho9
 have hszq9 : w.heap.size ≤ w8.heap.size := hsz
 have hbs_b9 : w.heap.size ≤ b9 := Nat.le_trans hsz hzl9
 replace hB := below_ext hB hE9 hsz
 replace hR4 := hR4.ext hE9
 replace hRr4 := hRr4.ext hE9
 replace hbr6 := hbr6.ext hE9
 replace hpo8 := hpo8.ext hE9
 replace hsz := Nat.le_trans hsz hE9.size
 refine l_o (o_buildSlice (el := 3) (cs := [vint 1]) Try.underlying26 el3 (by decide) (by kernel_rfl) rfl (by decide) rfl ?_)
 intro b10 w10 hzl10 hzr10 _ hb10 hE10 ho10
 have hszq10 : w.heap.size ≤ w9.heap.size := hsz
 have hbs_b10 : w.heap.size ≤ b10 := Nat.le_trans hsz hzl10
 replace hB := below_ext hB hE10 hsz
 replace hR4 := hR4.ext hE10
 replace hRr4 := hRr4.ext hE10
 replace hbr6 := hbr6.ext hE10
 replace hpo8 := hpo8.ext hE10
 replace ho9 := own_ext ho9 hE10
 replace hsz := Nat.le_trans hsz hE10.size
 refine l_o (o_buildSlice (el := 3) (cs := [vint 0]) Try.underlying26 el3 (by decide) (by kernel_rfl) rfl (by decide) rfl ?_)
 intro b11 w11 hzl11 hzr11 _ hb11 hE11 ho11
 have hszq11 : w.heap.size ≤ w10.heap.size := hsz
 have hbs_b11 : w.heap.size ≤ b11 := Nat.le_trans hsz hzl11
 replace hB := below_ext hB hE11 hsz
 replace hR4 := hR4.ext hE11
 replace hRr4 := hRr4.ext hE11
 replace hbr6 := hbr6.ext hE11
 replace hpo8 := hpo8.ext hE11
 replace ho9 := own_ext ho9 hE11
 replace ho10 := own_ext ho10 hE11
 replace hsz := Nat.le_trans hsz hE11.size
 refine l_o (o_buildSlice (el := 3) (cs := [vint 1]) Try.underlying26 el3 (by decide) (by kernel_rfl) rfl (by decide) rfl ?_)
 intro b12 w12 hzl12 hzr12 _ hb12 hE12 ho12
 have hszq12 : w.heap.size ≤ w11.heap.size := hsz
 have hbs_b12 : w.heap.size ≤ b12 := Nat.le_trans hsz hzl12
 replace hB := below_ext hB hE12 hsz
 replace hR4 := hR4.ext hE12
 replace hRr4 := hRr4.ext hE12
 replace hbr6 := hbr6.ext hE12
 replace hpo8 := hpo8.ext hE12
 replace ho9 := own_ext ho9 hE12
 replace ho10 := own_ext ho10 hE12
 replace ho11 := own_ext ho11 hE12
 replace hsz := Nat.le_trans hsz hE12.size
 refine l_o (o_buildSlice (el := 26) (cs := [.slice (some ⟨b9, 0, none⟩) 1 1, .slice (some ⟨b10, 0, none⟩) 1 1, .slice (some ⟨b11, 0, none⟩) 1 1, .slice (some ⟨b12, 0, none⟩) 1 1]) Try.underlying22 el26 (by decide) (by kernel_rfl) rfl (by decide) rfl ?_)
 intro b13 w13 hzl13 hzr13 _ hb13 hE13 ho13
 have hszq13 : w.heap.size ≤ w12.heap.size := hsz
 have hbs_b13 : w.heap.size ≤ b13 := Nat.le_trans hsz hzl13
 replace hB := below_ext hB hE13 hsz
 replace hR4 := hR4.ext hE13
 replace hRr4 := hRr4.ext hE13
 replace hbr6 := hbr6.ext hE13
 replace hpo8 := hpo8.ext hE13
 replace ho9 := own_ext ho9 hE13
 replace ho10 := own_ext ho10 hE13
 replace ho11 := own_ext ho11 hE13
 replace ho12 := own_ext ho12 hE13
 replace hsz := Nat.le_trans hsz hE13.size
 have hos13 : OwnsI w13 w.heap.size 3 ([⟨some ⟨b9, 0, none⟩, 1, [0]⟩, ⟨some ⟨b10, 0, none⟩, 1, [1]⟩, ⟨some ⟨b11, 0, none⟩, 1, [0]⟩, ⟨some ⟨b12, 0, none⟩, 1, [1]⟩] : List SV) := OwnsI.snoc (OwnsI.snoc (OwnsI.snoc (OwnsI.snoc (OwnsI.nil _ _ _) (own_mono ho9 (by omega))) (own_mono ho10 (by omega))) (own_mono ho11 (by omega))) (own_mono ho12 (by omega))
 refine l_o (o_call Try.call8 rfl ((by have h := Rules_ret pna8 pnc8 towN ppa8 ppc8 ppl8 pca8 pcc8 pL8 _ _ ([⟨some ⟨b9, 0, none⟩, 1, [0]⟩, ⟨some ⟨b10, 0, none⟩, 1, [1]⟩, ⟨some ⟨b11, 0, none⟩, 1, [0]⟩, ⟨some ⟨b12, 0, none⟩, 1, [1]⟩] : List SV) _ hpo8 hbg8.1 hbg8.2.1 hbg8.2.2.1 hbg8.2.2.2.1 (Row.of_owns ho13) hos13.rows (by simp) (by simp); rw [rules_pn hpp8 hpL8, (show rulesR towN towPl towL (([⟨some ⟨b9, 0, none⟩, 1, [0]⟩, ⟨some ⟨b10, 0, none⟩, 1, [1]⟩, ⟨some ⟨b11, 0, none⟩, 1, [0]⟩, ⟨some ⟨b12, 0, none⟩, 1, [1]⟩] : List SV).map (·.xs)) = _ from tow_rules1)] at h; exact h)) rfl ?_)
 rintro _ w14 ⟨rfl, hE14⟩
 replace hB := below_ext hB hE14 hsz
 replace hR4 := hR4.ext hE14
 replace hRr4 := hRr4.ext hE14
 replace hbr6 := hbr6.ext hE14
 replace hsz := Nat.le_trans hsz hE14.size
 refine l_q (q_move (v := .tuple _) rfl rfl) (l_q (q_extract (vs := [_, _]) (v := .bool _) rfl rfl rfl) (l_q (q_extract (vs := [_, _]) (v := .int _ _) rfl rfl rfl) (l_q (qab rfl rfl) (l_q (qai rfl rfl) (l_nil (r_forget [(1, .slice _ _ _), (2, .int _ _), (3, .int _ _), (4, .slice _ _ _), (5, .int _ _), (6, .bool _), (7, .int _ _)] ⟨rfl, rfl, rfl, rfl, rfl, rfl, rfl, trivial⟩ (fun e15 => (r_seq (r_seq (r_region' (l_q (qmi rfl rfl) (l_q (q_neq rfl rfl rfl) (l_q (qmb rfl rfl) ?_)))))))))))))
 have hk16 : (!decide (0 = 0)) = false := by decide
 refine l_part 55 rfl (fun hx => absurd (hk16.symm.trans hx) (by decide)) (fun _ => (l_q (qmi rfl rfl) (l_q (q_neq rfl rfl rfl) (l_q (q_pick_f (v := .bool _) rfl rfl rfl) (l_q (qmb rfl rfl) ?_)))))
 have hk17 : (!decide (5 = 5)) = false := by decide
 refine l_part 59 rfl (fun hx => absurd (hk17.symm.trans hx) (by decide)) (fun _ => (l_q (qms rfl rfl) (l_o (o_buildSlice (el := 3) (cs := [vint 0]) Try.underlying26 el3 (by decide) (by kernel_rfl) rfl (by decide) rfl ?_))))
 intro b18 w18 hzl18 hzr18 _ hb18 hE18 ho18
 have hszq18 : w.heap.size ≤ w14.heap.size := hsz
 have hbs_b18 : w.heap.size ≤ b18 := Nat.le_trans hsz hzl18
 replace hB := below_ext hB hE18 hsz
 replace hR4 := hR4.ext hE18
 replace hRr4 := hRr4.ext hE18
 replace hbr6 := hbr6.ext hE18
 replace hsz := Nat.le_trans hsz hE18.size
 refine l_o (o_buildSlice (el := 3) (cs := [vint 1]) Try.underlying26 el3 (by decide) (by kernel_rfl) rfl (by decide) rfl ?_)
 intro b19 w19 hzl19 hzr19 _ hb19 hE19 ho19
 have hszq19 : w.heap.size ≤ w18.heap.size := hsz
 have hbs_b19 : w.heap.size ≤ b19 := Nat.le_trans hsz hzl19
 replace hB := below_ext hB hE19 hsz
 replace hR4 := hR4.ext hE19
 replace hRr4 := hRr4.ext hE19
 replace hbr6 := hbr6.ext hE19
 replace ho18 := own_ext ho18 hE19
 replace hsz := Nat.le_trans hsz hE19.size
 refine l_o (o_buildSlice (el := 3) (cs := [vint 2]) Try.underlying26 el3 (by decide) (by kernel_rfl) rfl (by decide) rfl ?_)
 intro b20 w20 hzl20 hzr20 _ hb20 hE20 ho20
 have hszq20 : w.heap.size ≤ w19.heap.size := hsz
 have hbs_b20 : w.heap.size ≤ b20 := Nat.le_trans hsz hzl20
 replace hB := below_ext hB hE20 hsz
 replace hR4 := hR4.ext hE20
 replace hRr4 := hRr4.ext hE20
 replace hbr6 := hbr6.ext hE20
 replace ho18 := own_ext ho18 hE20
 replace ho19 := own_ext ho19 hE20
 replace hsz := Nat.le_trans hsz hE20.size
 refine l_o (o_buildSlice (el := 3) (cs := [vint 0, vint 1]) Try.underlying26 el3 (by decide) (by kernel_rfl) rfl (by decide) rfl ?_)
 intro b21 w21 hzl21 hzr21 _ hb21 hE21 ho21
 have hszq21 : w.heap.size ≤ w20.heap.size := hsz
 have hbs_b21 : w.heap.size ≤ b21 := Nat.le_trans hsz hzl21
 replace hB := below_ext hB hE21 hsz
 replace hR4 := hR4.ext hE21
 replace hRr4 := hRr4.ext hE21
 replace hbr6 := hbr6.ext hE21
 replace ho18 := own_ext ho18 hE21
 replace ho19 := own_ext ho19 hE21
 replace ho20 := own_ext ho20 hE21
 replace hsz := Nat.le_trans hsz hE21.size
 refine l_o (o_buildSlice (el := 26) (cs := [.slice (some ⟨b18, 0, none⟩) 1 1, .slice (some ⟨b19, 0, none⟩) 1 1, .slice (some ⟨b20, 0, none⟩) 1 1, .slice (some ⟨b21, 0, none⟩) 2 2]) Try.underlying22 el26 (by decide) (by kernel_rfl) rfl (by decide) rfl ?_)
 intro b22 w22 hzl22 hzr22 _ hb22 hE22 ho22
 have hszq22 : w.heap.size ≤ w21.heap.size := hsz
 have hbs_b22 : w.heap.size ≤ b22 := Nat.le_trans hsz hzl22
 replace hB := below_ext hB hE22 hsz
 replace hR4 := hR4.ext hE22
 replace hRr4 := hRr4.ext hE22
 replace hbr6 := hbr6.ext hE22
 replace ho18 := own_ext ho18 hE22
 replace ho19 := own_ext ho19 hE22
 replace ho20 := own_ext ho20 hE22
 replace ho21 := own_ext ho21 hE22
 replace hsz := Nat.le_trans hsz hE22.size
 have hos22 : OwnsI w22 w.heap.size 3 ([⟨some ⟨b18, 0, none⟩, 1, [0]⟩, ⟨some ⟨b19, 0, none⟩, 1, [1]⟩, ⟨some ⟨b20, 0, none⟩, 1, [2]⟩, ⟨some ⟨b21, 0, none⟩, 2, [0, 1]⟩] : List SV) := OwnsI.snoc (OwnsI.snoc (OwnsI.snoc (OwnsI.snoc (OwnsI.nil _ _ _) (own_mono ho18 (by omega))) (own_mono ho19 (by omega))) (own_mono ho20 (by omega))) (own_mono ho21 (by omega))
 refine l_o (o_call Try.call9 rfl (lsame10_ret _ _ R4 _ _ ([⟨some ⟨b18, 0, none⟩, 1, [0]⟩, ⟨some ⟨b19, 0, none⟩, 1, [1]⟩, ⟨some ⟨b20, 0, none⟩, 1, [2]⟩, ⟨some ⟨b21, 0, none⟩, 2, [0, 1]⟩] : List SV) _ hR4 hRr4 (rows_small (hRm4) (by decide)).1 (rows_small (hRm4) (by decide)).2 (Row.of_owns ho22) hos22.rows (by simp) (by simp)) rfl ?_)
 rintro _ w23 ⟨rfl, hE23⟩
 replace hB := below_ext hB hE23 hsz
 replace hbr6 := hbr6.ext hE23
 replace hsz := Nat.le_trans hsz hE23.size
 refine l_q (q_not rfl rfl) (l_q (q_pick_f (v := .bool _) rfl rfl rfl) (l_q (qmb rfl rfl) ?_))
 have hk24 : (!(decide (R4.map (·.xs) = [[0], [1], [2], [0, 1]]))) = false := by rw [decide_eq_true hRm4]; rfl
 refine l_part 69 rfl (fun hx => absurd (hk24.symm.trans hx) (by decide)) (fun _ => (l_q (qmi rfl rfl) (l_q (q_neq rfl rfl rfl) (l_q (q_pick_f (v := .bool _) rfl rfl rfl) (l_q (qmb rfl rfl) ?_)))))
 have hk25 : (!decide (0 = 0)) = false := by decide
 refine l_part 73 rfl (fun hx => absurd (hk25.symm.trans hx) (by decide)) (fun _ => (l_q (qms rfl rfl) (l_q (q_len rfl Try.underlying31 rfl rfl) (l_q (q_neq rfl rfl rfl) (l_q (q_pick_f (v := .bool _) rfl rfl rfl) (l_q (qmb rfl rfl) ?_))))))
 have hk26 : (!decide (((([⟨80, 90⟩, ⟨55, 85⟩, ⟨45, 85⟩, ⟨30, 75⟩] : List RG)).length : Int) = 4)) = false := by decide
 refine l_part 78 rfl (fun hx => absurd (hk26.symm.trans hx) (by decide)) (fun _ => (l_q (qms rfl rfl) ?_))
 obtain ⟨b27, o27, ha27, hh27⟩ := hbr6.at (by decide) 0 (by decide)
 refine l_q (q_indexAddr Try.underlying31 Try.sizeOf41 rfl ha27 rfl (by decide) rfl) (l_q (q_load_agg (cs := [vint (((([⟨80, 90⟩, ⟨55, 85⟩, ⟨45, 85⟩, ⟨30, 75⟩] : List RG)).getD 0 rg0).lo), vint (((([⟨80, 90⟩, ⟨55, 85⟩, ⟨45, 85⟩, ⟨30, 75⟩] : List RG)).getD 0 rg0).hi)]) (n := 2) Try.isAgg41 Try.sizeOf41 rfl ((cells_cast (wide_at RG.len rg0 _ _ (by decide)) hh27)) rfl rfl) (l_q (q_build (v := .agg ⟨[vint 80, vint 90]⟩) (fun w => by kernel_rfl) rfl) (l_q (q_neq_pair pairTy41 (by kernel_rfl) rfl rfl rfl) (l_q (q_pick_f (v := .bool _) rfl rfl rfl) (l_q (qmb rfl rfl) ?_)))))
 have hk28 : (!(decide ((((([⟨80, 90⟩, ⟨55, 85⟩, ⟨45, 85⟩, ⟨30, 75⟩] : List RG)).getD 0 rg0).lo) = 80) && decide ((((([⟨80, 90⟩, ⟨55, 85⟩, ⟨45, 85⟩, ⟨30, 75⟩] : List RG)).getD 0 rg0).hi) = 90))) = false := by decide
 refine l_part 85 rfl (fun hx => absurd (hk28.symm.trans hx) (by decide)) (fun _ => (l_q (qms rfl rfl) ?_))
 obtain ⟨b29, o29, ha29, hh29⟩ := hbr6.at (by decide) 3 (by decide)
 refine l_q (q_indexAddr Try.underlying31 Try.sizeOf41 rfl ha29 rfl (by decide) rfl) (l_q (q_load_agg (cs := [vint (((([⟨80, 90⟩, ⟨55, 85⟩, ⟨45, 85⟩, ⟨30, 75⟩] : List RG)).getD 3 rg0).lo), vint (((([⟨80, 90⟩, ⟨55, 85⟩, ⟨45, 85⟩, ⟨30, 75⟩] : List RG)).getD 3 rg0).hi)]) (n := 2) Try.isAgg41 Try.sizeOf41 rfl ((cells_cast (wide_at RG.len rg0 _ _ (by decide)) hh29)) rfl rfl) (l_q (q_build (v := .agg ⟨[vint 30, vint 75]⟩) (fun w => by kernel_rfl) rfl) (l_q (q_neq_pair pairTy41 (by kernel_rfl) rfl rfl rfl) (l_q (q_pick_f (v := .bool _) rfl rfl rfl) (l_q (qmb rfl rfl) ?_)))))
 have hk30 : (!(decide ((((([⟨80, 90⟩, ⟨55, 85⟩, ⟨45, 85⟩, ⟨30, 75⟩] : List RG)).getD 3 rg0).lo) = 30) && decide ((((([⟨80, 90⟩, ⟨55, 85⟩, ⟨45, 85⟩, ⟨30, 75⟩] : List RG)).getD 3 rg0).hi) = 75))) = false := by decide
 refine l_part 92 rfl (fun hx => absurd (hk30.symm.trans hx) (by decide)) (fun _ => (l_q (qmi rfl rfl) (l_q (q_neq rfl rfl rfl) (l_q (q_pick_f (v := .bool _) rfl rfl rfl) (l_q (qmb rfl rfl) ?_)))))
 have hk31 : (!decide (0 = 0)) = false := by decide
 refine l_part 96 rfl (fun hx => absurd (hk31.symm.trans hx) (by decide)) (fun _ => (l_q (qmb rfl rfl) (l_q (q_not rfl rfl) (l_q (q_pick_f (v := .bool _) rfl rfl rfl) (l_q (qmb rfl rfl) (l_o (o_call Try.call5 rfl (tower_ret none 0 [] _ (Row.nil _ _ _ _) (RowsI.nil _) (by decide) (by simp)) rfl ?_)))))))
 rintro _ w32 ⟨pna32, pnc32, ppa32, ppc32, ppl32, pca32, pcc32, pL32, rfl, hpo32, hpp32, hpL32, hE32⟩
 replace hB := below_ext hB hE32 hsz
 replace hsz := Nat.le_trans hsz hE32.size
 replace hpL32 : pL32.map (·.xs) = towL.map (·.xs) := hpL32
 have hbg32 := post_big hpp32 hpL32 towL_big
 refine l_o (o_buildSlice (el := 3) (cs := [vint 0]) Try.underlying26 el3 (by decide) (by kernel_rfl) rfl (by decide) rfl ?_)
 intro b33 w33 hzl33 hzr33 _ hb33 hE33 ho33
 have hszq33 : w.heap.size ≤ w32.heap.size := hsz
 have hbs_b33 : w.heap.size ≤ b33 := Nat.le_trans hsz hzl33
 replace hB := below_ext hB hE33 hsz
 replace hpo32 := hpo32.ext hE33
 replace hsz := Nat.le_trans hsz hE33.size
 refine l_o (o_buildSlice (el := 3) (cs := [vint 1]) Try.underlying26 el3 (by decide) (by kernel_rfl) rfl (by decide) rfl ?_)
 intro b34 w34 hzl34 hzr34 _ hb34 hE34 ho34
 have hszq34 : w.heap.size ≤ w33.heap.size := hsz
 have hbs_b34 : w.heap.size ≤ b34 := Nat.le_trans hsz hzl34
 replace hB := below_ext hB hE34 hsz
 replace hpo32 := hpo32.ext hE34
 replace ho33 := own_ext ho33 hE34
 replace hsz := Nat.le_trans hsz hE34.size
 refine l_o (o_buildSlice (el := 3) (cs := [vint 2]) Try.underlying26 el3 (by decide) (by kernel_rfl) rfl (by decide) rfl ?_)
 intro b35 w35 hzl35 hzr35 _ hb35 hE35 ho35
 have hszq35 : w.heap.size ≤ w34.heap.size := hsz
 have hbs_b35 : w.heap.size ≤ b35 := Nat.le_trans hsz hzl35
 replace hB := below_ext hB hE35 hsz
 replace hpo32 := hpo32.ext hE35
 replace ho33 := own_ext ho33 hE35
 replace ho34 := own_ext ho34 hE35
 replace hsz := Nat.le_trans hsz hE35.size
 refine l_o (o_buildSlice (el := 3) (cs := [vint 1]) Try.underlying26 el3 (by decide) (by kernel_rfl) rfl (by decide) rfl ?_)
 intro b36 w36 hzl36 hzr36 _ hb36 hE36 ho36
 have hszq36 : w.heap.size ≤ w35.heap.size := hsz
 have hbs_b36 : w.heap.size ≤ b36 := Nat.le_trans hsz hzl36
 replace hB := below_ext hB hE36 hsz
 replace hpo32 := hpo32.ext hE36
 replace ho33 := own_ext ho33 hE36
 replace ho34 := own_ext ho34 hE36
 replace ho35 := own_ext ho35 hE36
 replace hsz := Nat.le_trans hsz hE36.size
 refine l_o (o_buildSlice (el := 26) (cs := [.slice (some ⟨b33, 0, none⟩) 1 1, .slice (some ⟨b34, 0, none⟩) 1 1, .slice (some ⟨b35, 0, none⟩) 1 1, .slice (some ⟨b36, 0, none⟩) 1 1]) Try.underlying22 el26 (by decide) (by kernel_rfl) rfl (by decide) rfl ?_)
 intro b37 w37 hzl37 hzr37 _ hb37 hE37 ho37
 have hszq37 : w.heap.size ≤ w36.heap.size := hsz
 have hbs_b37 : w.heap.size ≤ b37 := Nat.le_trans hsz hzl37
 replace hB := below_ext hB hE37 hsz
 replace hpo32 := hpo32.ext hE37
 replace ho33 := own_ext ho33 hE37
 replace ho34 := own_ext ho34 hE37
 replace ho35 := own_ext ho35 hE37
 replace ho36 := own_ext ho36 hE37
 replace hsz := Nat.le_trans hsz hE37.size
 have hos37 : OwnsI w37 w.heap.size 3 ([⟨some ⟨b33, 0, none⟩, 1, [0]⟩, ⟨some ⟨b34, 0, none⟩, 1, [1]⟩, ⟨some ⟨b35, 0, none⟩, 1, [2]⟩, ⟨some ⟨b36, 0, none⟩, 1, [1]⟩] : List SV) := OwnsI.snoc (OwnsI.snoc (OwnsI.snoc (OwnsI.snoc (OwnsI.nil _ _ _) (own_mono ho33 (by omega))) (own_mono ho34 (by omega))) (own_mono ho35 (by omega))) (own_mono ho36 (by omega))
 refine l_o (o_call Try.call10 rfl ((by have h := prove_ret pna32 pnc32 towN ppa32 ppc32 ppl32 pca32 pcc32 pL32 _ _ ([⟨some ⟨b33, 0, none⟩, 1, [0]⟩, ⟨some ⟨b34, 0, none⟩, 1, [1]⟩, ⟨some ⟨b35, 0, none⟩, 1, [2]⟩, ⟨some ⟨b36, 0, none⟩, 1, [1]⟩] : List SV) 4 _ hpo32 hbg32.1 hbg32.2.1 hbg32.2.2.1 hbg32.2.2.2.1 (Row.of_owns ho37) hos37.rows (by simp) (by simp); rw [prove_eq, po_pn hpp32 hpL32, hpL32, proveX_pn hpp32, show proveX towN towPl (towL.map (·.xs)) (planP (po towN towPl towL) (([⟨some ⟨b33, 0, none⟩, 1, [0]⟩, ⟨some ⟨b34, 0, none⟩, 1, [1]⟩, ⟨some ⟨b35, 0, none⟩, 1, [2]⟩, ⟨some ⟨b36, 0, none⟩, 1, [1]⟩] : List SV).map (·.xs))) (([⟨some ⟨b33, 0, none⟩, 1, [0]⟩, ⟨some ⟨b34, 0, none⟩, 1, [1]⟩, ⟨some ⟨b35, 0, none⟩, 1, [2]⟩, ⟨some ⟨b36, 0, none⟩, 1, [1]⟩] : List SV).map (·.xs)) 4 = true from tow_prove1] at h; exact h)) rfl ?_)
 rintro _ w38 ⟨rfl, hE38⟩
 replace hB := below_ext hB hE38 hsz
 replace hsz := Nat.le_trans hsz hE38.size
 refine l_q (q_not rfl rfl) (l_q (q_pick_f (v := .bool _) rfl rfl rfl) (l_q (qmb rfl rfl) (l_o (o_call Try.call5 rfl (tower_ret none 0 [] _ (Row.nil _ _ _ _) (RowsI.nil _) (by decide) (by simp)) rfl ?_))))
 rintro _ w39 ⟨pna39, pnc39, ppa39, ppc39, ppl39, pca39, pcc39, pL39, rfl, hpo39, hpp39, hpL39, hE39⟩
 replace hB := below_ext hB hE39 hsz
 replace hsz := Nat.le_trans hsz hE39.size
 replace hpL39 : pL39.map (·.xs) = towL.map (·.xs) := hpL39
 have hbg39 := post_big hpp39 hpL39 towL_big
 refine l_o (o_buildSlice (el := 3) (cs := [vint 0]) Try.underlying26 el3 (by decide) (by kernel_rfl) rfl (by decide) rfl ?_)
 intro b40 w40 hzl40 hzr40 _ hb40 hE40 ho40
 have hszq40 : w.heap.size ≤ w39.heap.size := hsz
 have hbs_b40 : w.heap.size ≤ b40 := Nat.le_trans hsz hzl40
 replace hB := below_ext hB hE40 hsz
 replace hpo39 := hpo39.ext hE40
 replace hsz := Nat.le_trans hsz hE40.size
 refine l_o (o_buildSlice (el := 3) (cs := [vint 1]) Try.underlying26 el3 (by decide) (by kernel_rfl) rfl (by decide) rfl ?_)
 intro b41 w41 hzl41 hzr41 _ hb41 hE41 ho41
 have hszq41 : w.heap.size ≤ w40.heap.size := hsz
 have hbs_b41 : w.heap.size ≤ b41 := Nat.le_trans hsz hzl41
 replace hB := below_ext hB hE41 hsz
 replace hpo39 := hpo39.ext hE41
 replace ho40 := own_ext ho40 hE41
 replace hsz := Nat.le_trans hsz hE41.size
 refine l_o (o_buildSlice (el := 3) (cs := [vint 2]) Try.underlying26 el3 (by decide) (by kernel_rfl) rfl (by decide) rfl ?_)
 intro b42 w42 hzl42 hzr42 _ hb42 hE42 ho42
 have hszq42 : w.heap.size ≤ w41.heap.size := hsz
 have hbs_b42 : w.heap.size ≤ b42 := Nat.le_trans hsz hzl42
 replace hB := below_ext hB hE42 hsz
 replace hpo39 := hpo39.ext hE42
 replace ho40 := own_ext ho40 hE42
 replace ho41 := own_ext ho41 hE42
 replace hsz := Nat.le_trans hsz hE42.size
 refine l_o (o_buildSlice (el := 3) (cs := [vint 1]) Try.underlying26 el3 (by decide) (by kernel_rfl) rfl (by decide) rfl ?_)
 intro b43 w43 hzl43 hzr43 _ hb43 hE43 ho43
 have hszq43 : w.heap.size ≤ w42.heap.size := hsz
 have hbs_b43 : w.heap.size ≤ b43 := Nat.le_trans hsz hzl43
 replace hB := below_ext hB hE43 hsz
 replace hpo39 := hpo39.ext hE43
 replace ho40 := own_ext ho40 hE43
 replace ho41 := own_ext ho41 hE43
 replace ho42 := own_ext ho42 hE43
 replace hsz := Nat.le_trans hsz hE43.size
 refine l_o (o_buildSlice (el := 26) (cs := [.slice (some ⟨b40, 0, none⟩) 1 1, .slice (some ⟨b41, 0, none⟩) 1 1, .slice (some ⟨b42, 0, none⟩) 1 1, .slice (some ⟨b43, 0, none⟩) 1 1]) Try.underlying22 el26 (by decide) (by kernel_rfl) rfl (by decide) rfl ?_)
 intro b44 w44 hzl44 hzr44 _ hb44 hE44 ho44
 have hszq44 : w.heap.size ≤ w43.heap.size := hsz
 have hbs_b44 : w.heap.size ≤ b44 := Nat.le_trans hsz hzl44
 replace hB := below_ext hB hE44 hsz
 replace hpo39 := hpo39.ext hE44
 replace ho40 := own_ext ho40 hE44
 replace ho41 := own_ext ho41 hE44
 replace ho42 := own_ext ho42 hE44
 replace ho43 := own_ext ho43 hE44
 replace hsz := Nat.le_trans hsz hE44.size
 have hos44 : OwnsI w44 w.heap.size 3 ([⟨some ⟨b40, 0, none⟩, 1, [0]⟩, ⟨some ⟨b41, 0, none⟩, 1, [1]⟩, ⟨some ⟨b42, 0, none⟩, 1, [2]⟩, ⟨some ⟨b43, 0, none⟩, 1, [1]⟩] : List SV) := OwnsI.snoc (OwnsI.snoc (OwnsI.snoc (OwnsI.snoc (OwnsI.nil _ _ _) (own_mono ho40 (by omega))) (own_mono ho41 (by omega))) (own_mono ho42 (by omega))) (own_mono ho43 (by omega))
 refine l_o (o_call Try.call10 rfl ((by have h := prove_ret pna39 pnc39 towN ppa39 ppc39 ppl39 pca39 pcc39 pL39 _ _ ([⟨some ⟨b40, 0, none⟩, 1, [0]⟩, ⟨some ⟨b41, 0, none⟩, 1, [1]⟩, ⟨some ⟨b42, 0, none⟩, 1, [2]⟩, ⟨some ⟨b43, 0, none⟩, 1, [1]⟩] : List SV) 3 _ hpo39 hbg39.1 hbg39.2.1 hbg39.2.2.1 hbg39.2.2.2.1 (Row.of_owns ho44) hos44.rows (by simp) (by simp); rw [prove_eq, po_pn hpp39 hpL39, hpL39, proveX_pn hpp39, show proveX towN towPl (towL.map (·.xs)) (planP (po towN towPl towL) (([⟨some ⟨b40, 0, none⟩, 1, [0]⟩, ⟨some ⟨b41, 0, none⟩, 1, [1]⟩, ⟨some ⟨b42, 0, none⟩, 1, [2]⟩, ⟨some ⟨b43, 0, none⟩, 1, [1]⟩] : List SV).map (·.xs))) (([⟨some ⟨b40, 0, none⟩, 1, [0]⟩, ⟨some ⟨b41, 0, none⟩, 1, [1]⟩, ⟨some ⟨b42, 0, none⟩, 1, [2]⟩, ⟨some ⟨b43, 0, none⟩, 1, [1]⟩] : List SV).map (·.xs)) 3 = false from tow_prove2] at h; exact h)) rfl ?_)
 rintro _ w45 ⟨rfl, hE45⟩
 replace hB := below_ext hB hE45 hsz
 replace hsz := Nat.le_trans hsz hE45.size
 refine l_q (q_pick_f (v := .bool _) rfl rfl rfl) (l_q (qmb rfl rfl) (l_o (o_call Try.call5 rfl (tower_ret none 0 [] _ (Row.nil _ _ _ _) (RowsI.nil _) (by decide) (by simp)) rfl ?_)))
 rintro _ w46 ⟨pna46, pnc46, ppa46, ppc46, ppl46, pca46, pcc46, pL46, rfl, hpo46, hpp46, hpL46, hE46⟩
 replace hB := below_ext hB hE46 hsz
 replace hsz := Nat.le_trans hsz hE46.size
 replace hpL46 : pL46.map (·.xs) = towL.map (·.xs) := hpL46
 have hbg46 := post_big hpp46 hpL46 towL_big
 refine l_o (o_buildSlice (el := 3) (cs := [vint 0]) Try.underlying26 el3 (by decide) (by kernel_rfl) rfl (by decide) rfl ?_)
 intro b47 w47 hzl47 hzr47 _ hb47 hE47 ho47
 have hszq47 : w.heap.size ≤ w46.heap.size := hsz
 have hbs_b47 : w.heap.size ≤ b47 := Nat.le_trans hsz hzl47
 replace hB := below_ext hB hE47 hsz
 replace hpo46 := hpo46.ext hE47
 replace hsz := Nat.le_trans hsz hE47.size
 refine l_o (o_buildSlice (el := 3) (cs := [vint 1]) Try.underlying26 el3 (by decide) (by kernel_rfl) rfl (by decide) rfl ?_)
 intro b48 w48 hzl48 hzr48 _ hb48 hE48 ho48
 have hszq48 : w.heap.size ≤ w47.heap.size := hsz
 have hbs_b48 : w.heap.size ≤ b48 := Nat.le_trans hsz hzl48
 replace hB := below_ext hB hE48 hsz
 replace hpo46 := hpo46.ext hE48
 replace ho47 := own_ext ho47 hE48
 replace hsz := Nat.le_trans hsz hE48.size
 refine l_o (o_buildSlice (el := 3) (cs := [vint 0]) Try.underlying26 el3 (by decide) (by kernel_rfl) rfl (by decide) rfl ?_)
 intro b49 w49 hzl49 hzr49 _ hb49 hE49 ho49
 have hszq49 : w.heap.size ≤ w48.heap.size := hsz
 have hbs_b49 : w.heap.size ≤ b49 := Nat.le_trans hsz hzl49
 replace hB := below_ext hB hE49 hsz
 replace hpo46 := hpo46.ext hE49
 replace ho47 := own_ext ho47 hE49
 replace ho48 := own_ext ho48 hE49
 replace hsz := Nat.le_trans hsz hE49.size
 refine l_o (o_buildSlice (el := 3) (cs := [vint 1]) Try.underlying26 el3 (by decide) (by kernel_rfl) rfl (by decide) rfl ?_)
 intro b50 w50 hzl50 hzr50 _ hb50 hE50 ho50
 have hszq50 : w.heap.size ≤ w49.heap.size := hsz
 have hbs_b50 : w.heap.size ≤ b50 := Nat.le_trans hsz hzl50
 replace hB := below_ext hB hE50 hsz
 replace hpo46 := hpo46.ext hE50
 replace ho47 := own_ext ho47 hE50
 replace ho48 := own_ext ho48 hE50
 replace ho49 := own_ext ho49 hE50
 replace hsz := Nat.le_trans hsz hE50.size
 refine l_o (o_buildSlice (el := 26) (cs := [.slice (some ⟨b47, 0, none⟩) 1 1, .slice (some ⟨b48, 0, none⟩) 1 1, .slice (some ⟨b49, 0, none⟩) 1 1, .slice (some ⟨b50, 0, none⟩) 1 1]) Try.underlying22 el26 (by decide) (by kernel_rfl) rfl (by decide) rfl ?_)
 intro b51 w51 hzl51 hzr51 _ hb51 hE51 ho51
 have hszq51 : w.heap.size ≤ w50.heap.size := hsz
 have hbs_b51 : w.heap.size ≤ b51 := Nat.le_trans hsz hzl51
 replace hB := below_ext hB hE51 hsz
 replace hpo46 := hpo46.ext hE51
 replace ho47 := own_ext ho47 hE51
 replace ho48 := own_ext ho48 hE51
 replace ho49 := own_ext ho49 hE51
 replace ho50 := own_ext ho50 hE51
 replace hsz := Nat.le_trans hsz hE51.size
 have hos51 : OwnsI w51 w.heap.size 3 ([⟨some ⟨b47, 0, none⟩, 1, [0]⟩, ⟨some ⟨b48, 0, none⟩, 1, [1]⟩, ⟨some ⟨b49, 0, none⟩, 1, [0]⟩, ⟨some ⟨b50, 0, none⟩, 1, [1]⟩] : List SV) := OwnsI.snoc (OwnsI.snoc (OwnsI.snoc (OwnsI.snoc (OwnsI.nil _ _ _) (own_mono ho47 (by omega))) (own_mono ho48 (by omega))) (own_mono ho49 (by omega))) (own_mono ho50 (by omega))
 refine l_o (o_call Try.call10 rfl ((by have h := prove_ret pna46 pnc46 towN ppa46 ppc46 ppl46 pca46 pcc46 pL46 _ _ ([⟨some ⟨b47, 0, none⟩, 1, [0]⟩, ⟨some ⟨b48, 0, none⟩, 1, [1]⟩, ⟨some ⟨b49, 0, none⟩, 1, [0]⟩, ⟨some ⟨b50, 0, none⟩, 1, [1]⟩] : List SV) 9 _ hpo46 hbg46.1 hbg46.2.1 hbg46.2.2.1 hbg46.2.2.2.1 (Row.of_owns ho51) hos51.rows (by simp) (by simp); rw [prove_eq, po_pn hpp46 hpL46, hpL46, proveX_pn hpp46, show proveX towN towPl (towL.map (·.xs)) (planP (po towN towPl towL) (([⟨some ⟨b47, 0, none⟩, 1, [0]⟩, ⟨some ⟨b48, 0, none⟩, 1, [1]⟩, ⟨some ⟨b49, 0, none⟩, 1, [0]⟩, ⟨some ⟨b50, 0, none⟩, 1, [1]⟩] : List SV).map (·.xs))) (([⟨some ⟨b47, 0, none⟩, 1, [0]⟩, ⟨some ⟨b48, 0, none⟩, 1, [1]⟩, ⟨some ⟨b49, 0, none⟩, 1, [0]⟩, ⟨some ⟨b50, 0, none⟩, 1, [1]⟩] : List SV).map (·.xs)) 9 = false from tow_prove3] at h; exact h)) rfl ?_)
 rintro _ w52 ⟨rfl, hE52⟩
 replace hB := below_ext hB hE52 hsz
 replace hsz := Nat.le_trans hsz hE52.size
 refine l_q (q_pick_f (v := .bool _) rfl rfl rfl) (l_q (qmb rfl rfl) (l_o (o_call Try.call5 rfl (tower_ret none 0 [] _ (Row.nil _ _ _ _) (RowsI.nil _) (by decide) (by simp)) rfl ?_)))
 rintro _ w53 ⟨pna53, pnc53, ppa53, ppc53, ppl53, pca53, pcc53, pL53, rfl, hpo53, hpp53, hpL53, hE53⟩
 replace hB := below_ext hB hE53 hsz
 replace hsz := Nat.le_trans hsz hE53.size
 replace hpL53 : pL53.map (·.xs) = towL.map (·.xs) := hpL53
 have hbg53 := post_big hpp53 hpL53 towL_big
 refine l_o (o_buildSlice (el := 3) (cs := [vint 0]) Try.underlying26 el3 (by decide) (by kernel_rfl) rfl (by decide) rfl ?_)
 intro b54 w54 hzl54 hzr54 _ hb54 hE54 ho54
 have hszq54 : w.heap.size ≤ w53.heap.size := hsz
 have hbs_b54 : w.heap.size ≤ b54 := Nat.le_trans hsz hzl54
 replace hB := below_ext hB hE54 hsz
 replace hpo53 := hpo53.ext hE54
 replace hsz := Nat.le_trans hsz hE54.size
 refine l_o (o_buildSlice (el := 3) (cs := [vint 0]) Try.underlying26 el3 (by decide) (by kernel_rfl) rfl (by decide) rfl ?_)
 intro b55 w55 hzl55 hzr55 _ hb55 hE55 ho55
 have hszq55 : w.heap.size ≤ w54.heap.size := hsz
 have hbs_b55 : w.heap.size ≤ b55 := Nat.le_trans hsz hzl55
 replace hB := below_ext hB hE55 hsz
 replace hpo53 := hpo53.ext hE55
 replace ho54 := own_ext ho54 hE55
 replace hsz := Nat.le_trans hsz hE55.size
 refine l_o (o_buildSlice (el := 3) (cs := [vint 2]) Try.underlying26 el3 (by decide) (by kernel_rfl) rfl (by decide) rfl ?_)
 intro b56 w56 hzl56 hzr56 _ hb56 hE56 ho56
 have hszq56 : w.heap.size ≤ w55.heap.size := hsz
 have hbs_b56 : w.heap.size ≤ b56 := Nat.le_trans hsz hzl56
 replace hB := below_ext hB hE56 hsz
 replace hpo53 := hpo53.ext hE56
 replace ho54 := own_ext ho54 hE56
 replace ho55 := own_ext ho55 hE56
 replace hsz := Nat.le_trans hsz hE56.size
 refine l_o (o_buildSlice (el := 3) (cs := [vint 1]) Try.underlying26 el3 (by decide) (by kernel_rfl) rfl (by decide) rfl ?_)
 intro b57 w57 hzl57 hzr57 _ hb57 hE57 ho57
 have hszq57 : w.heap.size ≤ w56.heap.size := hsz
 have hbs_b57 : w.heap.size ≤ b57 := Nat.le_trans hsz hzl57
 replace hB := below_ext hB hE57 hsz
 replace hpo53 := hpo53.ext hE57
 replace ho54 := own_ext ho54 hE57
 replace ho55 := own_ext ho55 hE57
 replace ho56 := own_ext ho56 hE57
 replace hsz := Nat.le_trans hsz hE57.size
 refine l_o (o_buildSlice (el := 26) (cs := [.slice (some ⟨b54, 0, none⟩) 1 1, .slice (some ⟨b55, 0, none⟩) 1 1, .slice (some ⟨b56, 0, none⟩) 1 1, .slice (some ⟨b57, 0, none⟩) 1 1]) Try.underlying22 el26 (by decide) (by kernel_rfl) rfl (by decide) rfl ?_)
 intro b58 w58 hzl58 hzr58 _ hb58 hE58 ho58
 have hszq58 : w.heap.size ≤ w57.heap.size := hsz
 have hbs_b58 : w.heap.size ≤ b58 := Nat.le_trans hsz hzl58
 replace hB := below_ext hB hE58 hsz
 replace hpo53 := hpo53.ext hE58
 replace ho54 := own_ext ho54 hE58
 replace ho55 := own_ext ho55 hE58
 replace ho56 := own_ext ho56 hE58
 replace ho57 := own_ext ho57 hE58
 replace hsz := Nat.le_trans hsz hE58.size
 have hos58 : OwnsI w58 w.heap.size 3 ([⟨some ⟨b54, 0, none⟩, 1, [0]⟩, ⟨some ⟨b55, 0, none⟩, 1, [0]⟩, ⟨some ⟨b56, 0, none⟩, 1, [2]⟩, ⟨some ⟨b57, 0, none⟩, 1, [1]⟩] : List SV) := OwnsI.snoc (OwnsI.snoc (OwnsI.snoc (OwnsI.snoc (OwnsI.nil _ _ _) (own_mono ho54 (by omega))) (own_mono ho55 (by omega))) (own_mono ho56 (by omega))) (own_mono ho57 (by omega))
 refine l_o (o_call Try.call10 rfl ((by have h := prove_ret pna53 pnc53 towN ppa53 ppc53 ppl53 pca53 pcc53 pL53 _ _ ([⟨some ⟨b54, 0, none⟩, 1, [0]⟩, ⟨some ⟨b55, 0, none⟩, 1, [0]⟩, ⟨some ⟨b56, 0, none⟩, 1, [2]⟩, ⟨some ⟨b57, 0, none⟩, 1, [1]⟩] : List SV) 9 _ hpo53 hbg53.1 hbg53.2.1 hbg53.2.2.1 hbg53.2.2.2.1 (Row.of_owns ho58) hos58.rows (by simp) (by simp); rw [prove_eq, po_pn hpp53 hpL53, hpL53, proveX_pn hpp53, show proveX towN towPl (towL.map (·.xs)) (planP (po towN towPl towL) (([⟨some ⟨b54, 0, none⟩, 1, [0]⟩, ⟨some ⟨b55, 0, none⟩, 1, [0]⟩, ⟨some ⟨b56, 0, none⟩, 1, [2]⟩, ⟨some ⟨b57, 0, none⟩, 1, [1]⟩] : List SV).map (·.xs))) (([⟨some ⟨b54, 0, none⟩, 1, [0]⟩, ⟨some ⟨b55, 0, none⟩, 1, [0]⟩, ⟨some ⟨b56, 0, none⟩, 1, [2]⟩, ⟨some ⟨b57, 0, none⟩, 1, [1]⟩] : List SV).map (·.xs)) 9 = false from tow_prove4] at h; exact h)) rfl ?_)
 rintro _ w59 ⟨rfl, hE59⟩
 replace hB := below_ext hB hE59 hsz
 replace hsz := Nat.le_trans hsz hE59.size
 refine l_q (q_pick_f (v := .bool _) rfl rfl rfl) (l_q (qmb rfl rfl) (l_o (o_call Try.call5 rfl (tower_ret none 0 [] _ (Row.nil _ _ _ _) (RowsI.nil _) (by decide) (by simp)) rfl ?_)))
 rintro _ w60 ⟨pna60, pnc60, ppa60, ppc60, ppl60, pca60, pcc60, pL60, rfl, hpo60, hpp60, hpL60, hE60⟩
 replace hB := below_ext hB hE60 hsz
 replace hsz := Nat.le_trans hsz hE60.size
 replace hpL60 : pL60.map (·.xs) = towL.map (·.xs) := hpL60
 have hbg60 := post_big hpp60 hpL60 towL_big
 refine l_o (o_buildSlice (el := 3) (cs := [vint 0]) Try.underlying26 el3 (by decide) (by kernel_rfl) rfl (by decide) rfl ?_)
 intro b61 w61 hzl61 hzr61 _ hb61 hE61 ho61
 have hszq61 : w.heap.size ≤ w60.heap.size := hsz
 have hbs_b61 : w.heap.size ≤ b61 := Nat.le_trans hsz hzl61
 replace hB := below_ext hB hE61 hsz
 replace hpo60 := hpo60.ext hE61
 replace hsz := Nat.le_trans hsz hE61.size
 refine l_o (o_buildSlice (el := 3) (cs := [vint 1]) Try.underlying26 el3 (by decide) (by kernel_rfl) rfl (by decide) rfl ?_)
 intro b62 w62 hzl62 hzr62 _ hb62 hE62 ho62
 have hszq62 : w.heap.size ≤ w61.heap.size := hsz
 have hbs_b62 : w.heap.size ≤ b62 := Nat.le_trans hsz hzl62
 replace hB := below_ext hB hE62 hsz
 replace hpo60 := hpo60.ext hE62
 replace ho61 := own_ext ho61 hE62
 replace hsz := Nat.le_trans hsz hE62.size
 refine l_o (o_buildSlice (el := 3) (cs := [vint 2]) Try.underlying26 el3 (by decide) (by kernel_rfl) rfl (by decide) rfl ?_)
 intro b63 w63 hzl63 hzr63 _ hb63 hE63 ho63
 have hszq63 : w.heap.size ≤ w62.heap.size := hsz
 have hbs_b63 : w.heap.size ≤ b63 := Nat.le_trans hsz hzl63
 replace hB := below_ext hB hE63 hsz
 replace hpo60 := hpo60.ext hE63
 replace ho61 := own_ext ho61 hE63
 replace ho62 := own_ext ho62 hE63
 replace hsz := Nat.le_trans hsz hE63.size
 refine l_o (o_buildSlice (el := 26) (cs := [.slice (some ⟨b61, 0, none⟩) 1 1, .slice (some ⟨b62, 0, none⟩) 1 1, .slice (some ⟨b63, 0, none⟩) 1 1]) Try.underlying22 el26 (by decide) (by kernel_rfl) rfl (by decide) rfl ?_)
 intro b64 w64 hzl64 hzr64 _ hb64 hE64 ho64
 have hszq64 : w.heap.size ≤ w63.heap.size := hsz
 have hbs_b64 : w.heap.size ≤ b64 := Nat.le_trans hsz hzl64
 replace hB := below_ext hB hE64 hsz
 replace hpo60 := hpo60.ext hE64
 replace ho61 := own_ext ho61 hE64
 replace ho62 := own_ext ho62 hE64
 replace ho63 := own_ext ho63 hE64
 replace hsz := Nat.le_trans hsz hE64.size
 have hos64 : OwnsI w64 w.heap.size 3 ([⟨some ⟨b61, 0, none⟩, 1, [0]⟩, ⟨some ⟨b62, 0, none⟩, 1, [1]⟩, ⟨some ⟨b63, 0, none⟩, 1, [2]⟩] : List SV) := OwnsI.snoc (OwnsI.snoc (OwnsI.snoc (OwnsI.nil _ _ _) (own_mono ho61 (by omega))) (own_mono ho62 (by omega))) (own_mono ho63 (by omega))
 refine l_o (o_call Try.call10 rfl ((by have h := prove_ret pna60 pnc60 towN ppa60 ppc60 ppl60 pca60 pcc60 pL60 _ _ ([⟨some ⟨b61, 0, none⟩, 1, [0]⟩, ⟨some ⟨b62, 0, none⟩, 1, [1]⟩, ⟨some ⟨b63, 0, none⟩, 1, [2]⟩] : List SV) 9 _ hpo60 hbg60.1 hbg60.2.1 hbg60.2.2.1 hbg60.2.2.2.1 (Row.of_owns ho64) hos64.rows (by simp) (by simp); rw [prove_eq, po_pn hpp60 hpL60, hpL60, proveX_pn hpp60, show proveX towN towPl (towL.map (·.xs)) (planP (po towN towPl towL) (([⟨some ⟨b61, 0, none⟩, 1, [0]⟩, ⟨some ⟨b62, 0, none⟩, 1, [1]⟩, ⟨some ⟨b63, 0, none⟩, 1, [2]⟩] : List SV).map (·.xs))) (([⟨some ⟨b61, 0, none⟩, 1, [0]⟩, ⟨some ⟨b62, 0, none⟩, 1, [1]⟩, ⟨some ⟨b63, 0, none⟩, 1, [2]⟩] : List SV).map (·.xs)) 9 = false from tow_prove5] at h; exact h)) rfl ?_)
 rintro _ w65 ⟨rfl, hE65⟩
 replace hB := below_ext hB hE65 hsz
 replace hsz := Nat.le_trans hsz hE65.size
 refine l_q (q_pick_f (v := .bool _) rfl rfl rfl) (l_q (qmb rfl rfl) (l_o (o_call Try.call5 rfl (tower_ret none 0 [] _ (Row.nil _ _ _ _) (RowsI.nil _) (by decide) (by simp)) rfl ?_)))
 rintro _ w66 ⟨pna66, pnc66, ppa66, ppc66, ppl66, pca66, pcc66, pL66, rfl, hpo66, hpp66, hpL66, hE66⟩
 replace hB := below_ext hB hE66 hsz
 replace hsz := Nat.le_trans hsz hE66.size
 replace hpL66 : pL66.map (·.xs) = towL.map (·.xs) := hpL66
 have hbg66 := post_big hpp66 hpL66 towL_big
 refine l_o (o_buildSlice (el := 3) (cs := [vint 0]) Try.underlying26 el3 (by decide) (by kernel_rfl) rfl (by decide) rfl ?_)
 intro b67 w67 hzl67 hzr67 _ hb67 hE67 ho67
 have hszq67 : w.heap.size ≤ w66.heap.size := hsz
 have hbs_b67 : w.heap.size ≤ b67 := Nat.le_trans hsz hzl67
 replace hB := below_ext hB hE67 hsz
 replace hpo66 := hpo66.ext hE67
 replace hsz := Nat.le_trans hsz hE67.size
 refine l_o (o_buildSlice (el := 3) (cs := [vint 1, vint 0]) Try.underlying26 el3 (by decide) (by kernel_rfl) rfl (by decide) rfl ?_)
 intro b68 w68 hzl68 hzr68 _ hb68 hE68 ho68
 have hszq68 : w.heap.size ≤ w67.heap.size := hsz
 have hbs_b68 : w.heap.size ≤ b68 := Nat.le_trans hsz hzl68
 replace hB := below_ext hB hE68 hsz
 replace hpo66 := hpo66.ext hE68
 replace ho67 := own_ext ho67 hE68
 replace hsz := Nat.le_trans hsz hE68.size
 refine l_o (o_buildSlice (el := 3) (cs := [vint 2]) Try.underlying26 el3 (by decide) (by kernel_rfl) rfl (by decide) rfl ?_)
 intro b69 w69 hzl69 hzr69 _ hb69 hE69 ho69
 have hszq69 : w.heap.size ≤ w68.heap.size := hsz
 have hbs_b69 : w.heap.size ≤ b69 := Nat.le_trans hsz hzl69
 replace hB := below_ext hB hE69 hsz
 replace hpo66 := hpo66.ext hE69
 replace ho67 := own_ext ho67 hE69
 replace ho68 := own_ext ho68 hE69
 replace hsz := Nat.le_trans hsz hE69.size
 refine l_o (o_buildSlice (el := 3) (cs := [vint 1]) Try.underlying26 el3 (by decide) (by kernel_rfl) rfl (by decide) rfl ?_)
 intro b70 w70 hzl70 hzr70 _ hb70 hE70 ho70
 have hszq70 : w.heap.size ≤ w69.heap.size := hsz
 have hbs_b70 : w.heap.size ≤ b70 := Nat.le_trans hsz hzl70
 replace hB := below_ext hB hE70 hsz
 replace hpo66 := hpo66.ext hE70
 replace ho67 := own_ext ho67 hE70
 replace ho68 := own_ext ho68 hE70
 replace ho69 := own_ext ho69 hE70
 replace hsz := Nat.le_trans hsz hE70.size
 refine l_o (o_buildSlice (el := 26) (cs := [.slice (some ⟨b67, 0, none⟩) 1 1, .slice (some ⟨b68, 0, none⟩) 2 2, .slice (some ⟨b69, 0, none⟩) 1 1, .slice (some ⟨b70, 0, none⟩) 1 1]) Try.underlying22 el26 (by decide) (by kernel_rfl) rfl (by decide) rfl ?_)
 intro b71 w71 hzl71 hzr71 _ hb71 hE71 ho71
 have hszq71 : w.heap.size ≤ w70.heap.size := hsz
 have hbs_b71 : w.heap.size ≤ b71 := Nat.le_trans hsz hzl71
 replace hB := below_ext hB hE71 hsz
 replace hpo66 := hpo66.ext hE71
 replace ho67 := own_ext ho67 hE71
 replace ho68 := own_ext ho68 hE71
 replace ho69 := own_ext ho69 hE71
 replace ho70 := own_ext ho70 hE71
 replace hsz := Nat.le_trans hsz hE71.size
 have hos71 : OwnsI w71 w.heap.size 3 ([⟨some ⟨b67, 0, none⟩, 1, [0]⟩, ⟨some ⟨b68, 0, none⟩, 2, [1, 0]⟩, ⟨some ⟨b69, 0, none⟩, 1, [2]⟩, ⟨some ⟨b70, 0, none⟩, 1, [1]⟩] : List SV) := OwnsI.snoc (OwnsI.snoc (OwnsI.snoc (OwnsI.snoc (OwnsI.nil _ _ _) (own_mono ho67 (by omega))) (own_mono ho68 (by omega))) (own_mono ho69 (by omega))) (own_mono ho70 (by omega))
 refine l_o (o_call Try.call10 rfl ((by have h := prove_ret pna66 pnc66 towN ppa66 ppc66 ppl66 pca66 pcc66 pL66 _ _ ([⟨some ⟨b67, 0, none⟩, 1, [0]⟩, ⟨some ⟨b68, 0, none⟩, 2, [1, 0]⟩, ⟨some ⟨b69, 0, none⟩, 1, [2]⟩, ⟨some ⟨b70, 0, none⟩, 1, [1]⟩] : List SV) 9 _ hpo66 hbg66.1 hbg66.2.1 hbg66.2.2.1 hbg66.2.2.2.1 (Row.of_owns ho71) hos71.rows (by simp) (by simp); rw [prove_eq, po_pn hpp66 hpL66, hpL66, proveX_pn hpp66, show proveX towN towPl (towL.map (·.xs)) (planP (po towN towPl towL) (([⟨some ⟨b67, 0, none⟩, 1, [0]⟩, ⟨some ⟨b68, 0, none⟩, 2, [1, 0]⟩, ⟨some ⟨b69, 0, none⟩, 1, [2]⟩, ⟨some ⟨b70, 0, none⟩, 1, [1]⟩] : List SV).map (·.xs))) (([⟨some ⟨b67, 0, none⟩, 1, [0]⟩, ⟨some ⟨b68, 0, none⟩, 2, [1, 0]⟩, ⟨some ⟨b69, 0, none⟩, 1, [2]⟩, ⟨some ⟨b70, 0, none⟩, 1, [1]⟩] : List SV).map (·.xs)) 9 = false from tow_prove6] at h; exact h)) rfl ?_)
 rintro _ w72 ⟨rfl, hE72⟩
 replace hB := below_ext hB hE72 hsz
 replace hsz := Nat.le_trans hsz hE72.size
 refine l_q (q_pick_f (v := .bool _) rfl rfl rfl) (l_nil (r_forget [(153, .bool _)] ⟨rfl, trivial⟩ (fun e73 => (r_cond_f rfl (r_skip (r_seq (r_region' (l_o (o_call Try.call5 rfl (tower7_ret _) rfl ?_)))))))))
 rintro _ w74 ⟨B274, na74, nc74, pa74, pc74, y174, k174, z174, l174, ca74, cc74, i174, d174, rfl, hto74, hE74⟩
 have hszw74 : w.heap.size ≤ w72.heap.size := hsz
 have hszi74 := hE74.size
 replace hB := below_ext hB hE74 hsz
 replace hsz := Nat.le_trans hsz hE74.size
 have hszL74 : w74.heap.size ≤ w74.heap.size := Nat.le_refl _
 refine l_o (o_call Try.call5 rfl (tower7_ret _) rfl ?_)
 rintro _ w75 ⟨B275, na75, nc75, pa75, pc75, y175, k175, z175, l175, ca75, cc75, i175, d175, rfl, hto75, hE75⟩
 have hszk74_75 := hszL74
 have hszw75 : w.heap.size ≤ w74.heap.size := hsz
 have hszi75 := hE75.size
 replace hB := below_ext hB hE75 hsz
 replace hto74 := hto74.ext hE75
 replace hszL74 := Nat.le_trans hszL74 hE75.size
 replace hsz := Nat.le_trans hsz hE75.size
 have hszL75 : w75.heap.size ≤ w75.heap.size := Nat.le_refl _
 refine l_o (o_call Try.call5 rfl (tower7_ret _) rfl ?_)
 rintro _ w76 ⟨B276, na76, nc76, pa76, pc76, y176, k176, z176, l176, ca76, cc76, i176, d176, rfl, hto76, hE76⟩
 have hszk74_76 := hszL74
 have hszk75_76 := hszL75
 have hszw76 : w.heap.size ≤ w75.heap.size := hsz
 have hszi76 := hE76.size
 replace hB := below_ext hB hE76 hsz
 replace hto74 := hto74.ext hE76
 replace hszL74 := Nat.le_trans hszL74 hE76.size
 replace hto75 := hto75.ext hE76
 replace hszL75 := Nat.le_trans hszL75 hE76.size
 replace hsz := Nat.le_trans hsz hE76.size
 have hszL76 : w76.heap.size ≤ w76.heap.size := Nat.le_refl _
 refine l_o (o_call Try.call5 rfl (tower7_ret _) rfl ?_)
 rintro _ w77 ⟨B277, na77, nc77, pa77, pc77, y177, k177, z177, l177, ca77, cc77, i177, d177, rfl, hto77, hE77⟩
 have hszk74_77 := hszL74
 have hszk75_77 := hszL75
 have hszk76_77 := hszL76
 have hszw77 : w.heap.size ≤ w76.heap.size := hsz
 have hszi77 := hE77.size
 replace hB := below_ext hB hE77 hsz
 replace hto74 := hto74.ext hE77
 replace hszL74 := Nat.le_trans hszL74 hE77.size
 replace hto75 := hto75.ext hE77
 replace hszL75 := Nat.le_trans hszL75 hE77.size
 replace hto76 := hto76.ext hE77
 replace hszL76 := Nat.le_trans hszL76 hE77.size
 replace hsz := Nat.le_trans hsz hE77.size
 have hszL77 : w77.heap.size ≤ w77.heap.size := Nat.le_refl _
 refine l_o (o_call Try.call5 rfl (tower7_ret _) rfl ?_)
 rintro _ w78 ⟨B278, na78, nc78, pa78, pc78, y178, k178, z178, l178, ca78, cc78, i178, d178, rfl, hto78, hE78⟩
 have hszk74_78 := hszL74
 have hszk75_78 := hszL75
 have hszk76_78 := hszL76
 have hszk77_78 := hszL77
 have hszw78 : w.heap.size ≤ w77.heap.size := hsz
 have hszi78 := hE78.size
 replace hB := below_ext hB hE78 hsz
 replace hto74 := hto74.ext hE78
 replace hszL74 := Nat.le_trans hszL74 hE78.size
 replace hto75 := hto75.ext hE78
 replace hszL75 := Nat.le_trans hszL75 hE78.size
 replace hto76 := hto76.ext hE78
 replace hszL76 := Nat.le_trans hszL76 hE78.size
 replace hto77 := hto77.ext hE78
 replace hszL77 := Nat.le_trans hszL77 hE78.size
 replace hsz := Nat.le_trans hsz hE78.size
 have hszL78 : w78.heap.size ≤ w78.heap.size := Nat.le_refl _
 refine l_o (o_call Try.call5 rfl (tower7_ret _) rfl ?_)
 rintro _ w79 ⟨B279, na79, nc79, pa79, pc79, y179, k179, z179, l179, ca79, cc79, i179, d179, rfl, hto79, hE79⟩
 have hszk74_79 := hszL74
 have hszk75_79 := hszL75
 have hszk76_79 := hszL76
 have hszk77_79 := hszL77
 have hszk78_79 := hszL78
 have hszw79 : w.heap.size ≤ w78.heap.size := hsz
 have hszi79 := hE79.size
 replace hB := below_ext hB hE79 hsz
 replace hto74 := hto74.ext hE79
 replace hszL74 := Nat.le_trans hszL74 hE79.size
 replace hto75 := hto75.ext hE79
 replace hszL75 := Nat.le_trans hszL75 hE79.size
 replace hto76 := hto76.ext hE79
 replace hszL76 := Nat.le_trans hszL76 hE79.size
 replace hto77 := hto77.ext hE79
 replace hszL77 := Nat.le_trans hszL77 hE79.size
 replace hto78 := hto78.ext hE79
 replace hszL78 := Nat.le_trans hszL78 hE79.size
 replace hsz := Nat.le_trans hsz hE79.size
 have hszL79 : w79.heap.size ≤ w79.heap.size := Nat.le_refl _
 refine l_o (o_alloct Try.zeroValue29 rfl rfl ?_)
 intro b80 w80 hzl80 hzr80 _ hb80 hty_b80 hE80
 have hbs_b80 : w.heap.size ≤ b80 := Nat.le_trans hsz hzl80
 replace hB := below_ext hB hE80 hsz
 replace hto74 := hto74.ext hE80
 replace hszL74 := Nat.le_trans hszL74 hE80.size
 replace hto75 := hto75.ext hE80
 replace hszL75 := Nat.le_trans hszL75 hE80.size
 replace hto76 := hto76.ext hE80
 replace hszL76 := Nat.le_trans hszL76 hE80.size
 replace hto77 := hto77.ext hE80
 replace hszL77 := Nat.le_trans hszL77 hE80.size
 replace hto78 := hto78.ext hE80
 replace hszL78 := Nat.le_trans hszL78 hE80.size
 replace hto79 := hto79.ext hE80
 replace hszL79 := Nat.le_trans hszL79 hE80.size
 replace hsz := Nat.le_trans hsz hE80.size
 refine l_o (o_alloct Try.zeroValue29 rfl rfl ?_)
 intro b81 w81 hzl81 hzr81 _ hb81 hty_b81 hE81
 have hne_b80_b81 : b80 ≠ b81 := by have := hb80.lt; omega
 have hbs_b81 : w.heap.size ≤ b81 := Nat.le_trans hsz hzl81
 replace hB := below_ext hB hE81 hsz
 replace hto74 := hto74.ext hE81
 replace hszL74 := Nat.le_trans hszL74 hE81.size
 replace hto75 := hto75.ext hE81
 replace hszL75 := Nat.le_trans hszL75 hE81.size
 replace hto76 := hto76.ext hE81
 replace hszL76 := Nat.le_trans hszL76 hE81.size
 replace hto77 := hto77.ext hE81
 replace hszL77 := Nat.le_trans hszL77 hE81.size
 replace hto78 := hto78.ext hE81
 replace hszL78 := Nat.le_trans hszL78 hE81.size
 replace hto79 := hto79.ext hE81
 replace hszL79 := Nat.le_trans hszL79 hE81.size
 replace hb80 := hb80.ext hE81
 replace hty_b80 := hty_b80.ext hE81
 replace hsz := Nat.le_trans hsz hE81.size
 refine l_o (o_alloct Try.zeroValue29 rfl rfl ?_)
 intro b82 w82 hzl82 hzr82 _ hb82 hty_b82 hE82
 have hne_b80_b82 : b80 ≠ b82 := by have := hb80.lt; omega
 have hne_b81_b82 : b81 ≠ b82 := by have := hb81.lt; omega
 have hbs_b82 : w.heap.size ≤ b82 := Nat.le_trans hsz hzl82
 replace hB := below_ext hB hE82 hsz
 replace hto74 := hto74.ext hE82
 replace hszL74 := Nat.le_trans hszL74 hE82.size
 replace hto75 := hto75.ext hE82
 replace hszL75 := Nat.le_trans hszL75 hE82.size
 replace hto76 := hto76.ext hE82
 replace hszL76 := Nat.le_trans hszL76 hE82.size
 replace hto77 := hto77.ext hE82
 replace hszL77 := Nat.le_trans hszL77 hE82.size
 replace hto78 := hto78.ext hE82
 replace hszL78 := Nat.le_trans hszL78 hE82.size
 replace hto79 := hto79.ext hE82
 replace hszL79 := Nat.le_trans hszL79 hE82.size
 replace hb80 := hb80.ext hE82
 replace hty_b80 := hty_b80.ext hE82
 replace hb81 := hb81.ext hE82
 replace hty_b81 := hty_b81.ext hE82
 replace hsz := Nat.le_trans hsz hE82.size
 refine l_o (o_alloct Try.zeroValue29 rfl rfl ?_)
 intro b83 w83 hzl83 hzr83 _ hb83 hty_b83 hE83
 have hne_b80_b83 : b80 ≠ b83 := by have := hb80.lt; omega
 have hne_b81_b83 : b81 ≠ b83 := by have := hb81.lt; omega
 have hne_b82_b83 : b82 ≠ b83 := by have := hb82.lt; omega
 have hbs_b83 : w.heap.size ≤ b83 := Nat.le_trans hsz hzl83
 replace hB := below_ext hB hE83 hsz
 replace hto74 := hto74.ext hE83
 replace hszL74 := Nat.le_trans hszL74 hE83.size
 replace hto75 := hto75.ext hE83
 replace hszL75 := Nat.le_trans hszL75 hE83.size
 replace hto76 := hto76.ext hE83
 replace hszL76 := Nat.le_trans hszL76 hE83.size
 replace hto77 := hto77.ext hE83
 replace hszL77 := Nat.le_trans hszL77 hE83.size
 replace hto78 := hto78.ext hE83
 replace hszL78 := Nat.le_trans hszL78 hE83.size
 replace hto79 := hto79.ext hE83
 replace hszL79 := Nat.le_trans hszL79 hE83.size
 replace hb80 := hb80.ext hE83
 replace hty_b80 := hty_b80.ext hE83
 replace hb81 := hb81.ext hE83
 replace hty_b81 := hty_b81.ext hE83
 replace hb82 := hb82.ext hE83
 replace hty_b82 := hty_b82.ext hE83
 replace hsz := Nat.le_trans hsz hE83.size
 refine l_o (o_alloct Try.zeroValue29 rfl rfl ?_)
 intro b84 w84 hzl84 hzr84 _ hb84 hty_b84 hE84
 have hne_b80_b84 : b80 ≠ b84 := by have := hb80.lt; omega
 have hne_b81_b84 : b81 ≠ b84 := by have := hb81.lt; omega
 have hne_b82_b84 : b82 ≠ b84 := by have := hb82.lt; omega
 have hne_b83_b84 : b83 ≠ b84 := by have := hb83.lt; omega
 have hbs_b84 : w.heap.size ≤ b84 := Nat.le_trans hsz hzl84
 replace hB := below_ext hB hE84 hsz
 replace hto74 := hto74.ext hE84
 replace hszL74 := Nat.le_trans hszL74 hE84.size
 replace hto75 := hto75.ext hE84
 replace hszL75 := Nat.le_trans hszL75 hE84.size
 replace hto76 := hto76.ext hE84
 replace hszL76 := Nat.le_trans hszL76 hE84.size
 replace hto77 := hto77.ext hE84
 replace hszL77 := Nat.le_trans hszL77 hE84.size
 replace hto78 := hto78.ext hE84
 replace hszL78 := Nat.le_trans hszL78 hE84.size
 replace hto79 := hto79.ext hE84
 replace hszL79 := Nat.le_trans hszL79 hE84.size
 replace hb80 := hb80.ext hE84
 replace hty_b80 := hty_b80.ext hE84
 replace hb81 := hb81.ext hE84
 replace hty_b81 := hty_b81.ext hE84
 replace hb82 := hb82.ext hE84
 replace hty_b82 := hty_b82.ext hE84
 replace hb83 := hb83.ext hE84
 replace hty_b83 := hty_b83.ext hE84
 replace hsz := Nat.le_trans hsz hE84.size
 refine l_o (o_alloct Try.zeroValue29 rfl rfl ?_)
 intro b85 w85 hzl85 hzr85 _ hb85 hty_b85 hE85
 have hne_b80_b85 : b80 ≠ b85 := by have := hb80.lt; omega
 have hne_b81_b85 : b81 ≠ b85 := by have := hb81.lt; omega
 have hne_b82_b85 : b82 ≠ b85 := by have := hb82.lt; omega
 have hne_b83_b85 : b83 ≠ b85 := by have := hb83.lt; omega
 have hne_b84_b85 : b84 ≠ b85 := by have := hb84.lt; omega
 have hbs_b85 : w.heap.size ≤ b85 := Nat.le_trans hsz hzl85
 replace hB := below_ext hB hE85 hsz
 replace hto74 := hto74.ext hE85
 replace hszL74 := Nat.le_trans hszL74 hE85.size
 replace hto75 := hto75.ext hE85
 replace hszL75 := Nat.le_trans hszL75 hE85.size
 replace hto76 := hto76.ext hE85
 replace hszL76 := Nat.le_trans hszL76 hE85.size
 replace hto77 := hto77.ext hE85
 replace hszL77 := Nat.le_trans hszL77 hE85.size
 replace hto78 := hto78.ext hE85
 replace hszL78 := Nat.le_trans hszL78 hE85.size
 replace hto79 := hto79.ext hE85
 replace hszL79 := Nat.le_trans hszL79 hE85.size
 replace hb80 := hb80.ext hE85
 replace hty_b80 := hty_b80.ext hE85
 replace hb81 := hb81.ext hE85
 replace hty_b81 := hty_b81.ext hE85
 replace hb82 := hb82.ext hE85
 replace hty_b82 := hty_b82.ext hE85
 replace hb83 := hb83.ext hE85
 replace hty_b83 := hty_b83.ext hE85
 replace hb84 := hb84.ext hE85
 replace hty_b84 := hty_b84.ext hE85
 replace hsz := Nat.le_trans hsz hE85.size
 refine l_o (o_storet (vs := [.slice na74 towN.length nc74, .slice pa74 (((towPV y174 k174 z174 l174)).length) pc74, .slice ca74 1 cc74]) (cs' := [.slice na74 towN.length nc74, .slice pa74 (((towPV y174 k174 z174 l174)).length) pc74, .slice ca74 1 cc74]) Try.sizeOf29 rfl rfl rfl rfl hb80 (Nat.le_of_ble_eq_true rfl) rfl rfl ?_)
 intro w86 hz86 hb80 hT86 hG86
 replace hB := below_upd hB hG86 hsz (by omega)
 replace hsz : w.heap.size ≤ w86.heap.size := by rw [hz86]; exact hsz
 replace hto74 := hto74.keep hG86 (fun g hg => by cases hg; right; omega)
 replace hszL74 := Nat.le_trans hszL74 hG86.size
 replace hto75 := hto75.keep hG86 (fun g hg => by cases hg; right; omega)
 replace hszL75 := Nat.le_trans hszL75 hG86.size
 replace hto76 := hto76.keep hG86 (fun g hg => by cases hg; right; omega)
 replace hszL76 := Nat.le_trans hszL76 hG86.size
 replace hto77 := hto77.keep hG86 (fun g hg => by cases hg; right; omega)
 replace hszL77 := Nat.le_trans hszL77 hG86.size
 replace hto78 := hto78.keep hG86 (fun g hg => by cases hg; right; omega)
 replace hszL78 := Nat.le_trans hszL78 hG86.size
 replace hto79 := hto79.keep hG86 (fun g hg => by cases hg; right; omega)
 replace hszL79 := Nat.le_trans hszL79 hG86.size
 replace hb81 := hb81.upd hG86 (by omega)
 replace hty_b81 := hty_b81.upd hG86 (by omega)
 replace hb82 := hb82.upd hG86 (by omega)
 replace hty_b82 := hty_b82.upd hG86 (by omega)
 replace hb83 := hb83.upd hG86 (by omega)
 replace hty_b83 := hty_b83.upd hG86 (by omega)
 replace hb84 := hb84.upd hG86 (by omega)
 replace hty_b84 := hty_b84.upd hG86 (by omega)
 replace hb85 := hb85.upd hG86 (by omega)
 replace hty_b85 := hty_b85.upd hG86 (by omega)
 replace hty_b80 := hT86 _ hty_b80
 refine l_o (o_storet (vs := [.slice na75 towN.length nc75, .slice pa75 (((towPV y175 k175 z175 l175)).length) pc75, .slice ca75 1 cc75]) (cs' := [.slice na75 towN.length nc75, .slice pa75 (((towPV y175 k175 z175 l175)).length) pc75, .slice ca75 1 cc75]) Try.sizeOf29 rfl rfl rfl rfl hb81 (Nat.le_of_ble_eq_true rfl) rfl rfl ?_)
 intro w87 hz87 hb81 hT87 hG87
 replace hB := below_upd hB hG87 hsz (by omega)
 replace hsz : w.heap.size ≤ w87.heap.size := by rw [hz87]; exact hsz
 replace hto74 := hto74.keep hG87 (fun g hg => by cases hg; right; omega)
 replace hszL74 := Nat.le_trans hszL74 hG87.size
 replace hto75 := hto75.keep hG87 (fun g hg => by cases hg; right; omega)
 replace hszL75 := Nat.le_trans hszL75 hG87.size
 replace hto76 := hto76.keep hG87 (fun g hg => by cases hg; right; omega)
 replace hszL76 := Nat.le_trans hszL76 hG87.size
 replace hto77 := hto77.keep hG87 (fun g hg => by cases hg; right; omega)
 replace hszL77 := Nat.le_trans hszL77 hG87.size
 replace hto78 := hto78.keep hG87 (fun g hg => by cases hg; right; omega)
 replace hszL78 := Nat.le_trans hszL78 hG87.size
 replace hto79 := hto79.keep hG87 (fun g hg => by cases hg; right; omega)
 replace hszL79 := Nat.le_trans hszL79 hG87.size
 replace hb80 := hb80.upd hG87 (by omega)
 replace hty_b80 := hty_b80.upd hG87 (by omega)
 replace hb82 := hb82.upd hG87 (by omega)
 replace hty_b82 := hty_b82.upd hG87 (by omega)
 replace hb83 := hb83.upd hG87 (by omega)
 replace hty_b83 := hty_b83.upd hG87 (by omega)
 replace hb84 := hb84.upd hG87 (by omega)
 replace hty_b84 := hty_b84.upd hG87 (by omega)
 replace hb85 := hb85.upd hG87 (by omega)
 replace hty_b85 := hty_b85.upd hG87 (by omega)
 replace hty_b81 := hT87 _ hty_b81
 refine l_o (o_storet (vs := [.slice na76 towN.length nc76, .slice pa76 (((towPV y176 k176 z176 l176)).length) pc76, .slice ca76 1 cc76]) (cs' := [.slice na76 towN.length nc76, .slice pa76 (((towPV y176 k176 z176 l176)).length) pc76, .slice ca76 1 cc76]) Try.sizeOf29 rfl rfl rfl rfl hb82 (Nat.le_of_ble_eq_true rfl) rfl rfl ?_)
 intro w88 hz88 hb82 hT88 hG88
 replace hB := below_upd hB hG88 hsz (by omega)
 replace hsz : w.heap.size ≤ w88.heap.size := by rw [hz88]; exact hsz
 replace hto74 := hto74.keep hG88 (fun g hg => by cases hg; right; omega)
 replace hszL74 := Nat.le_trans hszL74 hG88.size
 replace hto75 := hto75.keep hG88 (fun g hg => by cases hg; right; omega)
 replace hszL75 := Nat.le_trans hszL75 hG88.size
 replace hto76 := hto76.keep hG88 (fun g hg => by cases hg; right; omega)
 replace hszL76 := Nat.le_trans hszL76 hG88.size
 replace hto77 := hto77.keep hG88 (fun g hg => by cases hg; right; omega)
 replace hszL77 := Nat.le_trans hszL77 hG88.size
 replace hto78 := hto78.keep hG88 (fun g hg => by cases hg; right; omega)
 replace hszL78 := Nat.le_trans hszL78 hG88.size
 replace hto79 := hto79.keep hG88 (fun g hg => by cases hg; right; omega)
 replace hszL79 := Nat.le_trans hszL79 hG88.size
 replace hb80 := hb80.upd hG88 (by omega)
 replace hty_b80 := hty_b80.upd hG88 (by omega)
 replace hb81 := hb81.upd hG88 (by omega)
 replace hty_b81 := hty_b81.upd hG88 (by omega)
 replace hb83 := hb83.upd hG88 (by omega)
 replace hty_b83 := hty_b83.upd hG88 (by omega)
 replace hb84 := hb84.upd hG88 (by omega)
 replace hty_b84 := hty_b84.upd hG88 (by omega)
 replace hb85 := hb85.upd hG88 (by omega)
 replace hty_b85 := hty_b85.upd hG88 (by omega)
 replace hty_b82 := hT88 _ hty_b82
 refine l_o (o_storet (vs := [.slice na77 towN.length nc77, .slice pa77 (((towPV y177 k177 z177 l177)).length) pc77, .slice ca77 1 cc77]) (cs' := [.slice na77 towN.length nc77, .slice pa77 (((towPV y177 k177 z177 l177)).length) pc77, .slice ca77 1 cc77]) Try.sizeOf29 rfl rfl rfl rfl hb83 (Nat.le_of_ble_eq_true rfl) rfl rfl ?_)
 intro w89 hz89 hb83 hT89 hG89
 replace hB := below_upd hB hG89 hsz (by omega)
 replace hsz : w.heap.size ≤ w89.heap.size := by rw [hz89]; exact hsz
 replace hto74 := hto74.keep hG89 (fun g hg => by cases hg; right; omega)
 replace hszL74 := Nat.le_trans hszL74 hG89.size
 replace hto75 := hto75.keep hG89 (fun g hg => by cases hg; right; omega)
 replace hszL75 := Nat.le_trans hszL75 hG89.size
 replace hto76 := hto76.keep hG89 (fun g hg => by cases hg; right; omega)
 replace hszL76 := Nat.le_trans hszL76 hG89.size
 replace hto77 := hto77.keep hG89 (fun g hg => by cases hg; right; omega)
 replace hszL77 := Nat.le_trans hszL77 hG89.size
 replace hto78 := hto78.keep hG89 (fun g hg => by cases hg; right; omega)
 replace hszL78 := Nat.le_trans hszL78 hG89.size
 replace hto79 := hto79.keep hG89 (fun g hg => by cases hg; right; omega)
 replace hszL79 := Nat.le_trans hszL79 hG89.size
 replace hb80 := hb80.upd hG89 (by omega)
 replace hty_b80 := hty_b80.upd hG89 (by omega)
 replace hb81 := hb81.upd hG89 (by omega)
 replace hty_b81 := hty_b81.upd hG89 (by omega)
 replace hb82 := hb82.upd hG89 (by omega)
 replace hty_b82 := hty_b82.upd hG89 (by omega)
 replace hb84 := hb84.upd hG89 (by omega)
 replace hty_b84 := hty_b84.upd hG89 (by omega)
 replace hb85 := hb85.upd hG89 (by omega)
 replace hty_b85 := hty_b85.upd hG89 (by omega)
 replace hty_b83 := hT89 _ hty_b83
 refine l_o (o_storet (vs := [.slice na78 towN.length nc78, .slice pa78 (((towPV y178 k178 z178 l178)).length) pc78, .slice ca78 1 cc78]) (cs' := [.slice na78 towN.length nc78, .slice pa78 (((towPV y178 k178 z178 l178)).length) pc78, .slice ca78 1 cc78]) Try.sizeOf29 rfl rfl rfl rfl hb84 (Nat.le_of_ble_eq_true rfl) rfl rfl ?_)
 intro w90 hz90 hb84 hT90 hG90
 replace hB := below_upd hB hG90 hsz (by omega)
 replace hsz : w.heap.size ≤ w90.heap.size := by rw [hz90]; exact hsz
 replace hto74 := hto74.keep hG90 (fun g hg => by cases hg; right; omega)
 replace hszL74 := Nat.le_trans hszL74 hG90.size
 replace hto75 := hto75.keep hG90 (fun g hg => by cases hg; right; omega)
 replace hszL75 := Nat.le_trans hszL75 hG90.size
 replace hto76 := hto76.keep hG90 (fun g hg => by cases hg; right; omega)
 replace hszL76 := Nat.le_trans hszL76 hG90.size
 replace hto77 := hto77.keep hG90 (fun g hg => by cases hg; right; omega)
 replace hszL77 := Nat.le_trans hszL77 hG90.size
 replace hto78 := hto78.keep hG90 (fun g hg => by cases hg; right; omega)
 replace hszL78 := Nat.le_trans hszL78 hG90.size
 replace hto79 := hto79.keep hG90 (fun g hg => by cases hg; right; omega)
 replace hszL79 := Nat.le_trans hszL79 hG90.size
 replace hb80 := hb80.upd hG90 (by omega)
 replace hty_b80 := hty_b80.upd hG90 (by omega)
 replace hb81 := hb81.upd hG90 (by omega)
 replace hty_b81 := hty_b81.upd hG90 (by omega)
 replace hb82 := hb82.upd hG90 (by omega)
 replace hty_b82 := hty_b82.upd hG90 (by omega)
 replace hb83 := hb83.upd hG90 (by omega)
 replace hty_b83 := hty_b83.upd hG90 (by omega)
 replace hb85 := hb85.upd hG90 (by omega)
 replace hty_b85 := hty_b85.upd hG90 (by omega)
 replace hty_b84 := hT90 _ hty_b84
 refine l_o (o_storet (vs := [.slice na79 towN.length nc79, .slice pa79 (((towPV y179 k179 z179 l179)).length) pc79, .slice ca79 1 cc79]) (cs' := [.slice na79 towN.length nc79, .slice pa79 (((towPV y179 k179 z179 l179)).length) pc79, .slice ca79 1 cc79]) Try.sizeOf29 rfl rfl rfl rfl hb85 (Nat.le_of_ble_eq_true rfl) rfl rfl ?_)
 intro w91 hz91 hb85 hT91 hG91
 replace hB := below_upd hB hG91 hsz (by omega)
 replace hsz : w.heap.size ≤ w91.heap.size := by rw [hz91]; exact hsz
 replace hto74 := hto74.keep hG91 (fun g hg => by cases hg; right; omega)
 replace hszL74 := Nat.le_trans hszL74 hG91.size
 replace hto75 := hto75.keep hG91 (fun g hg => by cases hg; right; omega)
 replace hszL75 := Nat.le_trans hszL75 hG91.size
 replace hto76 := hto76.keep hG91 (fun g hg => by cases hg; right; omega)
 replace hszL76 := Nat.le_trans hszL76 hG91.size
 replace hto77 := hto77.keep hG91 (fun g hg => by cases hg; right; omega)
 replace hszL77 := Nat.le_trans hszL77 hG91.size
 replace hto78 := hto78.keep hG91 (fun g hg => by cases hg; right; omega)
 replace hszL78 := Nat.le_trans hszL78 hG91.size
 replace hto79 := hto79.keep hG91 (fun g hg => by cases hg; right; omega)
 replace hszL79 := Nat.le_trans hszL79 hG91.size
 replace hb80 := hb80.upd hG91 (by omega)
 replace hty_b80 := hty_b80.upd hG91 (by omega)
 replace hb81 := hb81.upd hG91 (by omega)
 replace hty_b81 := hty_b81.upd hG91 (by omega)
 replace hb82 := hb82.upd hG91 (by omega)
 replace hty_b82 := hty_b82.upd hG91 (by omega)
 replace hb83 := hb83.upd hG91 (by omega)
 replace hty_b83 := hty_b83.upd hG91 (by omega)
 replace hb84 := hb84.upd hG91 (by omega)
 replace hty_b84 := hty_b84.upd hG91 (by omega)
 replace hty_b85 := hT91 _ hty_b85
 refine l_nil (r_seq ?_)
 have hszj0 : towN.length = 4 := rfl
 have hszj1 : glassG.length = 4 := rfl
 have hszj2 : ([2, -1, -1] : List Int).length = 3 := rfl
 have hszj9 : ((towPV y175 k175 z175 l175)).length = 3 := rfl
 have hszj10 : ((towPV y176 k176 z176 l176)).length = 3 := rfl
 have hszj11 : ((towPV y177 k177 z177 l177)).length = 3 := rfl
 have hszj13 : ((towPV y179 k179 z179 l179)).length = 3 := rfl
 refine r_region' (l_q (q_fieldAddr (o' := 0) rfl fld29_0 rfl) (l_q (q_load Try.isAgg26 rfl ((hb80.has (o := 0) rfl)) rfl) ?_))
 obtain ⟨b92, o92, ha92, hh92⟩ := (Row.of_owns hto74.nd_).at1 0 ((towN).getD 0 0) (getD_some (by decide))
 refine l_q (q_indexAddr1 Try.underlying26 Try.sizeOf3 rfl ha92 rfl (by decide) rfl) (l_o (o_store_own (f := vint) towN 0 3 Try.sizeOf3 rfl ha92 rfl rfl (fun _ => rfl) hto74.nd_ (by decide) rfl ?_))
 intro w93 hz93 ho93 hG93
 replace hB := below_own hB hG93 hto74.nd_ (by omega) hsz
 replace hsz := Nat.le_trans hsz hG93.size
 have hgr93 : ∀ g, (Value.slice na74 towN.length nc74).ownBlock = some g → w72.heap.size ≤ g ∧ g < w74.heap.size := fun g hg => ⟨own_block_ge hto74.nd_ hg, hto74.lt.1 g hg⟩
 replace hszL74 := Nat.le_trans hszL74 hG93.size
 replace hto75 := hto75.keep hG93 (fun g hg => by have := hgr93 g hg; omega)
 replace hszL75 := Nat.le_trans hszL75 hG93.size
 replace hto76 := hto76.keep hG93 (fun g hg => by have := hgr93 g hg; omega)
 replace hszL76 := Nat.le_trans hszL76 hG93.size
 replace hto77 := hto77.keep hG93 (fun g hg => by have := hgr93 g hg; omega)
 replace hszL77 := Nat.le_trans hszL77 hG93.size
 replace hto78 := hto78.keep hG93 (fun g hg => by have := hgr93 g hg; omega)
 replace hszL78 := Nat.le_trans hszL78 hG93.size
 replace hto79 := hto79.keep hG93 (fun g hg => by have := hgr93 g hg; omega)
 replace hszL79 := Nat.le_trans hszL79 hG93.size
 replace hb80 := hb80.step hG93 (own_ty_ne hto74.nd_ hty_b80 (by decide))
 replace hb81 := hb81.step hG93 (own_ty_ne hto74.nd_ hty_b81 (by decide))
 replace hb82 := hb82.step hG93 (own_ty_ne hto74.nd_ hty_b82 (by decide))
 replace hb83 := hb83.step hG93 (own_ty_ne hto74.nd_ hty_b83 (by decide))
 replace hb84 := hb84.step hG93 (own_ty_ne hto74.nd_ hty_b84 (by decide))
 replace hb85 := hb85.step hG93 (own_ty_ne hto74.nd_ hty_b85 (by decide))
 replace hty_b80 := TyAt.own hty_b80 hto74.nd_ hG93 (by decide)
 replace hty_b81 := TyAt.own hty_b81 hto74.nd_ hG93 (by decide)
 replace hty_b82 := TyAt.own hty_b82 hto74.nd_ hG93 (by decide)
 replace hty_b83 := TyAt.own hty_b83 hto74.nd_ hG93 (by decide)
 replace hty_b84 := TyAt.own hty_b84 hto74.nd_ hG93 (by decide)
 replace hty_b85 := TyAt.own hty_b85 hto74.nd_ hG93 (by decide)
 replace hto74 := hto74.need (nd2 := neN) hG93 ho93 rfl
 replace hb80 : Blk w93 b80 [.slice na74 neN.length nc74, .slice pa74 (((towPV y174 k174 z174 l174)).length) pc74, .slice ca74 1 cc74] := hb80
 refine l_nil (r_forget [(8, .pointer _), (9, .pointer _), (10, .pointer _), (11, .pointer _), (12, .pointer _), (13, .pointer _)] ⟨rfl, rfl, rfl, rfl, rfl, rfl, trivial⟩ (fun e94 => (r_seq (r_region' (l_q (q_fieldAddr (o' := 1) rfl fld29_1 rfl) (l_q (q_load Try.isAgg27 rfl ((hb81.has (o := 1) rfl)) rfl) (l_o (o_buildSlice (el := 4) (cs := [.bool true]) Try.underlying43 el4 (by decide) (by kernel_rfl) rfl (by decide) rfl ?_))))))))
 intro b95 w95 hzl95 hzr95 _ hb95 hE95 ho95
 have hszq95 : w.heap.size ≤ w93.heap.size := hsz
 have hne_b80_b95 : b80 ≠ b95 := by have := hb80.lt; omega
 have hne_b81_b95 : b81 ≠ b95 := by have := hb81.lt; omega
 have hne_b82_b95 : b82 ≠ b95 := by have := hb82.lt; omega
 have hne_b83_b95 : b83 ≠ b95 := by have := hb83.lt; omega
 have hne_b84_b95 : b84 ≠ b95 := by have := hb84.lt; omega
 have hne_b85_b95 : b85 ≠ b95 := by have := hb85.lt; omega
 have hbs_b95 : w.heap.size ≤ b95 := Nat.le_trans hsz hzl95
 replace hB := below_ext hB hE95 hsz
 replace hto74 := hto74.ext hE95
 replace hszL74 := Nat.le_trans hszL74 hE95.size
 replace hto75 := hto75.ext hE95
 replace hszL75 := Nat.le_trans hszL75 hE95.size
 replace hto76 := hto76.ext hE95
 replace hszL76 := Nat.le_trans hszL76 hE95.size
 replace hto77 := hto77.ext hE95
 replace hszL77 := Nat.le_trans hszL77 hE95.size
 replace hto78 := hto78.ext hE95
 replace hszL78 := Nat.le_trans hszL78 hE95.size
 replace hto79 := hto79.ext hE95
 replace hszL79 := Nat.le_trans hszL79 hE95.size
 replace hb80 := hb80.ext hE95
 replace hty_b80 := hty_b80.ext hE95
 replace hb81 := hb81.ext hE95
 replace hty_b81 := hty_b81.ext hE95
 replace hb82 := hb82.ext hE95
 replace hty_b82 := hty_b82.ext hE95
 replace hb83 := hb83.ext hE95
 replace hty_b83 := hty_b83.ext hE95
 replace hb84 := hb84.ext hE95
 replace hty_b84 := hty_b84.ext hE95
 replace hb85 := hb85.ext hE95
 replace hty_b85 := hty_b85.ext hE95
 replace hsz := Nat.le_trans hsz hE95.size
 obtain ⟨b96, o96, ha96, hh96⟩ := (Row.of_owns hto75.pl_).at (by decide) 0 (by omega)
 refine l_q (q_indexAddr Try.underlying27 Try.sizeOf45 rfl ha96 rfl (by omega) rfl) (l_q (q_fieldAddr (o' := 0) rfl fld45_0 rfl) (l_o (o_store_ownc (j := 0) (v := .slice (some ⟨b95, 0, none⟩) 1 1) Try.sizeOf43 rfl ha96 rfl rfl rfl hto75.pl_ (Nat.le_of_ble_eq_true rfl) rfl ?_)))
 intro w97 hz97 ho97 hG97
 replace hB := below_own hB hG97 hto75.pl_ (by omega) hsz
 replace hsz := Nat.le_trans hsz hG97.size
 have hgr97 : ∀ g, (Value.slice pa75 (towPV y175 k175 z175 l175).length pc75).ownBlock = some g → w74.heap.size ≤ g ∧ g < w75.heap.size := fun g hg => ⟨own_block_ge hto75.pl_ hg, hto75.lt.2.1 g hg⟩
 replace hto74 := hto74.keep hG97 (fun g hg => by have := hgr97 g hg; omega)
 replace hszL74 := Nat.le_trans hszL74 hG97.size
 replace hszL75 := Nat.le_trans hszL75 hG97.size
 replace hto76 := hto76.keep hG97 (fun g hg => by have := hgr97 g hg; omega)
 replace hszL76 := Nat.le_trans hszL76 hG97.size
 replace hto77 := hto77.keep hG97 (fun g hg => by have := hgr97 g hg; omega)
 replace hszL77 := Nat.le_trans hszL77 hG97.size
 replace hto78 := hto78.keep hG97 (fun g hg => by have := hgr97 g hg; omega)
 replace hszL78 := Nat.le_trans hszL78 hG97.size
 replace hto79 := hto79.keep hG97 (fun g hg => by have := hgr97 g hg; omega)
 replace hszL79 := Nat.le_trans hszL79 hG97.size
 replace hb80 := hb80.step hG97 (own_ty_ne hto75.pl_ hty_b80 (by decide))
 replace hb81 := hb81.step hG97 (own_ty_ne hto75.pl_ hty_b81 (by decide))
 replace hb82 := hb82.step hG97 (own_ty_ne hto75.pl_ hty_b82 (by decide))
 replace hb83 := hb83.step hG97 (own_ty_ne hto75.pl_ hty_b83 (by decide))
 replace hb84 := hb84.step hG97 (own_ty_ne hto75.pl_ hty_b84 (by decide))
 replace hb85 := hb85.step hG97 (own_ty_ne hto75.pl_ hty_b85 (by decide))
 replace ho95 := own_kept ho95 hto75.pl_ (by decide) hG97
 replace hty_b80 := TyAt.own hty_b80 hto75.pl_ hG97 (by decide)
 replace hty_b81 := TyAt.own hty_b81 hto75.pl_ hG97 (by decide)
 replace hty_b82 := TyAt.own hty_b82 hto75.pl_ hG97 (by decide)
 replace hty_b83 := TyAt.own hty_b83 hto75.pl_ hG97 (by decide)
 replace hty_b84 := TyAt.own hty_b84 hto75.pl_ hG97 (by decide)
 replace hty_b85 := TyAt.own hty_b85 hto75.pl_ hG97 (by decide)
 replace hto75 := hto75.ppl (pl2 := (abPV b95 y175 k175 z175 l175)) hG97 ho97 rfl
 have hszp97 : (abPV b95 y175 k175 z175 l175).length = 3 := rfl
 replace hb81 : Blk w97 b81 [.slice na75 towN.length nc75, .slice pa75 (((abPV b95 y175 k175 z175 l175)).length) pc75, .slice ca75 1 cc75] := hb81
 refine l_nil (r_seq (r_region' (l_q (q_fieldAddr (o' := 1) rfl fld29_1 rfl) (l_q (q_load Try.isAgg27 rfl ((hb82.has (o := 1) rfl)) rfl) ?_))))
 obtain ⟨b98, o98, ha98, hh98⟩ := (Row.of_owns hto76.pl_).at (by decide) 0 (by omega)
 refine l_q (q_indexAddr Try.underlying27 Try.sizeOf45 rfl ha98 rfl (by omega) rfl) (l_q (q_fieldAddr (o' := 1) rfl fld45_1 rfl) (l_o (o_store_ownc (j := 1) (v := vint 6) Try.sizeOf3 rfl ha98 rfl rfl rfl hto76.pl_ (Nat.le_of_ble_eq_true rfl) rfl ?_)))
 intro w99 hz99 ho99 hG99
 replace hB := below_own hB hG99 hto76.pl_ (by omega) hsz
 replace hsz := Nat.le_trans hsz hG99.size
 have hgr99 : ∀ g, (Value.slice pa76 (towPV y176 k176 z176 l176).length pc76).ownBlock = some g → w75.heap.size ≤ g ∧ g < w76.heap.size := fun g hg => ⟨own_block_ge hto76.pl_ hg, hto76.lt.2.1 g hg⟩
 replace hto74 := hto74.keep hG99 (fun g hg => by have := hgr99 g hg; omega)
 replace hszL74 := Nat.le_trans hszL74 hG99.size
 replace hto75 := hto75.keep hG99 (fun g hg => by have := hgr99 g hg; omega)
 replace hszL75 := Nat.le_trans hszL75 hG99.size
 replace hszL76 := Nat.le_trans hszL76 hG99.size
 replace hto77 := hto77.keep hG99 (fun g hg => by have := hgr99 g hg; omega)
 replace hszL77 := Nat.le_trans hszL77 hG99.size
 replace hto78 := hto78.keep hG99 (fun g hg => by have := hgr99 g hg; omega)
 replace hszL78 := Nat.le_trans hszL78 hG99.size
 replace hto79 := hto79.keep hG99 (fun g hg => by have := hgr99 g hg; omega)
 replace hszL79 := Nat.le_trans hszL79 hG99.size
 replace hb80 := hb80.step hG99 (own_ty_ne hto76.pl_ hty_b80 (by decide))
 replace hb81 := hb81.step hG99 (own_ty_ne hto76.pl_ hty_b81 (by decide))
 replace hb82 := hb82.step hG99 (own_ty_ne hto76.pl_ hty_b82 (by decide))
 replace hb83 := hb83.step hG99 (own_ty_ne hto76.pl_ hty_b83 (by decide))
 replace hb84 := hb84.step hG99 (own_ty_ne hto76.pl_ hty_b84 (by decide))
 replace hb85 := hb85.step hG99 (own_ty_ne hto76.pl_ hty_b85 (by decide))
 replace ho95 := own_kept ho95 hto76.pl_ (by decide) hG99
 replace hty_b80 := TyAt.own hty_b80 hto76.pl_ hG99 (by decide)
 replace hty_b81 := TyAt.own hty_b81 hto76.pl_ hG99 (by decide)
 replace hty_b82 := TyAt.own hty_b82 hto76.pl_ hG99 (by decide)
 replace hty_b83 := TyAt.own hty_b83 hto76.pl_ hG99 (by decide)
 replace hty_b84 := TyAt.own hty_b84 hto76.pl_ hG99 (by decide)
 replace hty_b85 := TyAt.own hty_b85 hto76.pl_ hG99 (by decide)
 replace hto76 := hto76.ppl (pl2 := (rePV y176 k176 z176 l176)) hG99 ho99 rfl
 have hszp99 : (rePV y176 k176 z176 l176).length = 3 := rfl
 replace hb82 : Blk w99 b82 [.slice na76 towN.length nc76, .slice pa76 (((rePV y176 k176 z176 l176)).length) pc76, .slice ca76 1 cc76] := hb82
 refine l_nil (r_seq (r_region' (l_q (q_fieldAddr (o' := 2) rfl fld29_2 rfl) (l_q (q_load Try.isAgg22 rfl ((hb83.has (o := 2) rfl)) rfl) ?_))))
 obtain ⟨b100, o100, ha100, hh100⟩ := (rowC1 hto77.ca_).at1 0 (([⟨i177, d177, [2, -1, -1]⟩]).getD 0 sv0) (getD_some (by simp))
 refine l_q (q_indexAddr1 Try.underlying22 Try.sizeOf26 rfl ha100 rfl (by simp) rfl) (l_q (q_load Try.isAgg26 rfl (hh100) rfl) ?_)
 obtain ⟨b101, o101, ha101, hh101⟩ := (RowsI.get ((rowsI1 hto77.in_)) (i := 0) (by simp)).at1 0 (((([⟨i177, d177, [2, -1, -1]⟩]).getD 0 sv0).xs).getD 0 0) (getD_some (by simp))
 refine l_q (q_indexAddr1 Try.underlying26 Try.sizeOf3 rfl ha101 rfl (by simp) rfl) (l_o (o_store_own (f := vint) [2, -1, -1] 0 4 Try.sizeOf3 rfl ha101 rfl rfl (fun _ => rfl) hto77.in_ (by decide) rfl ?_))
 intro w102 hz102 ho102 hG102
 have hszb102 := hto77.bb
 replace hB := below_own hB hG102 hto77.in_ (by omega) hsz
 replace hsz := Nat.le_trans hsz hG102.size
 have hgr102 : ∀ g, (Value.slice i177 ([2, -1, -1] : List Int).length d177).ownBlock = some g → w76.heap.size ≤ g ∧ g < w77.heap.size := fun g hg => ⟨Nat.le_trans hto77.bb (own_block_ge hto77.in_ hg), hto77.lt.2.2.2.2.2 g hg⟩
 replace hto74 := hto74.keep hG102 (fun g hg => by have := hgr102 g hg; omega)
 replace hszL74 := Nat.le_trans hszL74 hG102.size
 replace hto75 := hto75.keep hG102 (fun g hg => by have := hgr102 g hg; omega)
 replace hszL75 := Nat.le_trans hszL75 hG102.size
 replace hto76 := hto76.keep hG102 (fun g hg => by have := hgr102 g hg; omega)
 replace hszL76 := Nat.le_trans hszL76 hG102.size
 replace hszL77 := Nat.le_trans hszL77 hG102.size
 replace hto78 := hto78.keep hG102 (fun g hg => by have := hgr102 g hg; omega)
 replace hszL78 := Nat.le_trans hszL78 hG102.size
 replace hto79 := hto79.keep hG102 (fun g hg => by have := hgr102 g hg; omega)
 replace hszL79 := Nat.le_trans hszL79 hG102.size
 replace hb80 := hb80.step hG102 (own_ty_ne hto77.in_ hty_b80 (by decide))
 replace hb81 := hb81.step hG102 (own_ty_ne hto77.in_ hty_b81 (by decide))
 replace hb82 := hb82.step hG102 (own_ty_ne hto77.in_ hty_b82 (by decide))
 replace hb83 := hb83.step hG102 (own_ty_ne hto77.in_ hty_b83 (by decide))
 replace hb84 := hb84.step hG102 (own_ty_ne hto77.in_ hty_b84 (by decide))
 replace hb85 := hb85.step hG102 (own_ty_ne hto77.in_ hty_b85 (by decide))
 replace ho95 := own_kept ho95 hto77.in_ (by decide) hG102
 replace hty_b80 := TyAt.own hty_b80 hto77.in_ hG102 (by decide)
 replace hty_b81 := TyAt.own hty_b81 hto77.in_ hG102 (by decide)
 replace hty_b82 := TyAt.own hty_b82 hto77.in_ hG102 (by decide)
 replace hty_b83 := TyAt.own hty_b83 hto77.in_ hG102 (by decide)
 replace hty_b84 := TyAt.own hty_b84 hto77.in_ hG102 (by decide)
 replace hty_b85 := TyAt.own hty_b85 hto77.in_ hG102 (by decide)
 replace hto77 := hto77.inn (xs2 := [4, -1, -1]) hG102 ho102 rfl
 replace hb83 : Blk w102 b83 [.slice na77 towN.length nc77, .slice pa77 (((towPV y177 k177 z177 l177)).length) pc77, .slice ca77 1 cc77] := hb83
 refine l_nil (r_forget [(8, .pointer _), (9, .pointer _), (10, .pointer _), (11, .pointer _), (12, .pointer _), (13, .pointer _)] ⟨rfl, rfl, rfl, rfl, rfl, rfl, trivial⟩ (fun e103 => (r_seq (r_region' (l_o (o_makeSlice (n := 5) Try.underlying22 el26 (rfl) (rfl) (by omega) (by unfold maxLen; omega) rfl ?_))))))
 intro b104 w104 hzl104 hzr104 _ hb104 hE104 ho104
 rw [made_one _ _ rfl] at hb104 ho104
 have hne_b80_b104 : b80 ≠ b104 := by have := hb80.lt; omega
 have hne_b81_b104 : b81 ≠ b104 := by have := hb81.lt; omega
 have hne_b82_b104 : b82 ≠ b104 := by have := hb82.lt; omega
 have hne_b83_b104 : b83 ≠ b104 := by have := hb83.lt; omega
 have hne_b84_b104 : b84 ≠ b104 := by have := hb84.lt; omega
 have hne_b85_b104 : b85 ≠ b104 := by have := hb85.lt; omega
 have hbs_b104 : w.heap.size ≤ b104 := Nat.le_trans hsz hzl104
 replace hB := below_ext hB hE104 hsz
 replace hto74 := hto74.ext hE104
 replace hszL74 := Nat.le_trans hszL74 hE104.size
 replace hto75 := hto75.ext hE104
 replace hszL75 := Nat.le_trans hszL75 hE104.size
 replace hto76 := hto76.ext hE104
 replace hszL76 := Nat.le_trans hszL76 hE104.size
 replace hto77 := hto77.ext hE104
 replace hszL77 := Nat.le_trans hszL77 hE104.size
 replace hto78 := hto78.ext hE104
 replace hszL78 := Nat.le_trans hszL78 hE104.size
 replace hto79 := hto79.ext hE104
 replace hszL79 := Nat.le_trans hszL79 hE104.size
 replace hb80 := hb80.ext hE104
 replace hty_b80 := hty_b80.ext hE104
 replace hb81 := hb81.ext hE104
 replace hty_b81 := hty_b81.ext hE104
 replace hb82 := hb82.ext hE104
 replace hty_b82 := hty_b82.ext hE104
 replace hb83 := hb83.ext hE104
 replace hty_b83 := hty_b83.ext hE104
 replace hb84 := hb84.ext hE104
 replace hty_b84 := hty_b84.ext hE104
 replace hb85 := hb85.ext hE104
 replace hty_b85 := hty_b85.ext hE104
 replace ho95 := own_ext ho95 hE104
 replace hsz := Nat.le_trans hsz hE104.size
 replace ho104 : w104.ownsRow w102.heap.size 26 1 (.slice (some ⟨b104, 0, none⟩) 5 5) 5 ((List.replicate 5 sv0).map SV.enc) := by rw [List.map_replicate]; exact ho104
 refine l_q (q_fieldAddr (o' := 2) rfl fld29_2 rfl) (l_o (o_storet (vs := [.slice (some ⟨b104, 0, none⟩) 5 5]) (cs' := [.slice na78 towN.length nc78, .slice pa78 (((towPV y178 k178 z178 l178)).length) pc78, .slice (some ⟨b104, 0, none⟩) 5 5]) Try.sizeOf22 rfl rfl rfl rfl hb84 (Nat.le_of_ble_eq_true rfl) rfl rfl ?_))
 intro w105 hz105 hb84 hT105 hG105
 replace hB := below_upd hB hG105 hsz (by omega)
 replace hsz : w.heap.size ≤ w105.heap.size := by rw [hz105]; exact hsz
 replace hto74 := hto74.keep hG105 (fun g hg => by cases hg; right; omega)
 replace hszL74 := Nat.le_trans hszL74 hG105.size
 replace hto75 := hto75.keep hG105 (fun g hg => by cases hg; right; omega)
 replace hszL75 := Nat.le_trans hszL75 hG105.size
 replace hto76 := hto76.keep hG105 (fun g hg => by cases hg; right; omega)
 replace hszL76 := Nat.le_trans hszL76 hG105.size
 replace hto77 := hto77.keep hG105 (fun g hg => by cases hg; right; omega)
 replace hszL77 := Nat.le_trans hszL77 hG105.size
 replace hto78 := hto78.keep hG105 (fun g hg => by cases hg; right; omega)
 replace hszL78 := Nat.le_trans hszL78 hG105.size
 replace hto79 := hto79.keep hG105 (fun g hg => by cases hg; right; omega)
 replace hszL79 := Nat.le_trans hszL79 hG105.size
 replace hb80 := hb80.upd hG105 (by omega)
 replace hty_b80 := hty_b80.upd hG105 (by omega)
 replace hb81 := hb81.upd hG105 (by omega)
 replace hty_b81 := hty_b81.upd hG105 (by omega)
 replace hb82 := hb82.upd hG105 (by omega)
 replace hty_b82 := hty_b82.upd hG105 (by omega)
 replace hb83 := hb83.upd hG105 (by omega)
 replace hty_b83 := hty_b83.upd hG105 (by omega)
 replace hb85 := hb85.upd hG105 (by omega)
 replace hty_b85 := hty_b85.upd hG105 (by omega)
 replace ho95 := own_ty_upd ho95 hty_b84 hG105 (by decide)
 replace ho104 := own_ty_upd ho104 hty_b84 hG105 (by decide)
 replace hty_b84 := hT105 _ hty_b84
 refine l_nil (r_seq (r_draw (ClsBk.refl b85 [.slice na79 towN.length nc79, .slice pa79 (((towPV y179 k179 z179 l179)).length) pc79, .slice ca79 1 cc79]) (ClsBk.trans b85 [.slice na79 towN.length nc79, .slice pa79 (((towPV y179 k179 z179 l179)).length) pc79, .slice ca79 1 cc79]) [0, 1, 2, 3, 4, 5, 6, 7, 8, 9] [6, 9, 1009] 8 (by kernel_rfl) (by kernel_rfl) ?_))
 intro w106 _ hE106
 replace hB := below_ext hB hE106 hsz
 replace hto74 := hto74.ext hE106
 replace hszL74 := Nat.le_trans hszL74 hE106.size
 replace hto75 := hto75.ext hE106
 replace hszL75 := Nat.le_trans hszL75 hE106.size
 replace hto76 := hto76.ext hE106
 replace hszL76 := Nat.le_trans hszL76 hE106.size
 replace hto77 := hto77.ext hE106
 replace hszL77 := Nat.le_trans hszL77 hE106.size
 replace hto78 := hto78.ext hE106
 replace hszL78 := Nat.le_trans hszL78 hE106.size
 replace hto79 := hto79.ext hE106
 replace hszL79 := Nat.le_trans hszL79 hE106.size
 replace hb80 := hb80.ext hE106
 replace hty_b80 := hty_b80.ext hE106
 replace hb81 := hb81.ext hE106
 replace hty_b81 := hty_b81.ext hE106
 replace hb82 := hb82.ext hE106
 replace hty_b82 := hty_b82.ext hE106
 replace hb83 := hb83.ext hE106
 replace hty_b83 := hty_b83.ext hE106
 replace hb84 := hb84.ext hE106
 replace hty_b84 := hty_b84.ext hE106
 replace hb85 := hb85.ext hE106
 replace hty_b85 := hty_b85.ext hE106
 replace ho95 := own_ext ho95 hE106
 replace ho104 := own_ext ho104 hE106
 replace hsz := Nat.le_trans hsz hE106.size
 refine m_q rfl rfl (fun w' hC' => q_fieldAddr (o' := 1) rfl fld29_1 rfl) (m_q rfl rfl (fun w' hC' => q_load Try.isAgg27 rfl (((hC' hb85).has (o := 1) rfl)) rfl) (m_q rfl rfl (fun w' hC' => q_fieldAddr (o' := 1) rfl fld29_1 rfl) (m_q rfl rfl (fun w' hC' => q_load Try.isAgg27 rfl (((hC' hb85).has (o := 1) rfl)) rfl) ?_)))
 obtain ⟨b107, o107, ha107, hh107⟩ := (Row.of_owns hto79.pl_).at (by decide) 0 (by omega)
 refine m_q rfl rfl (fun w' hC' => q_indexAddr Try.underlying27 Try.sizeOf45 rfl ha107 rfl (by omega) rfl) (m_q rfl rfl (fun w' hC' => q_fieldAddr (o' := 2) rfl fld45_2 rfl) (m_o rfl rfl (o_store_ownc (j := 2) (v := vint 0) Try.sizeOf3 rfl ha107 rfl rfl rfl hto79.pl_ (Nat.le_of_ble_eq_true rfl) rfl ?_)))
 intro w108 hz108 ho108 hG108
 refine ⟨(fun h => h.step hG108 (own_ty_ne hto79.pl_ hty_b85 (by decide))), ?_⟩
 replace hB := below_own hB hG108 hto79.pl_ (by omega) hsz
 replace hsz := Nat.le_trans hsz hG108.size
 have hgr108 : ∀ g, (Value.slice pa79 (towPV y179 k179 z179 l179).length pc79).ownBlock = some g → w78.heap.size ≤ g ∧ g < w79.heap.size := fun g hg => ⟨own_block_ge hto79.pl_ hg, hto79.lt.2.1 g hg⟩
 replace hto74 := hto74.keep hG108 (fun g hg => by have := hgr108 g hg; omega)
 replace hszL74 := Nat.le_trans hszL74 hG108.size
 replace hto75 := hto75.keep hG108 (fun g hg => by have := hgr108 g hg; omega)
 replace hszL75 := Nat.le_trans hszL75 hG108.size
 replace hto76 := hto76.keep hG108 (fun g hg => by have := hgr108 g hg; omega)
 replace hszL76 := Nat.le_trans hszL76 hG108.size
 replace hto77 := hto77.keep hG108 (fun g hg => by have := hgr108 g hg; omega)
 replace hszL77 := Nat.le_trans hszL77 hG108.size
 replace hto78 := hto78.keep hG108 (fun g hg => by have := hgr108 g hg; omega)
 replace hszL78 := Nat.le_trans hszL78 hG108.size
 replace hszL79 := Nat.le_trans hszL79 hG108.size
 replace hb80 := hb80.step hG108 (own_ty_ne hto79.pl_ hty_b80 (by decide))
 replace hb81 := hb81.step hG108 (own_ty_ne hto79.pl_ hty_b81 (by decide))
 replace hb82 := hb82.step hG108 (own_ty_ne hto79.pl_ hty_b82 (by decide))
 replace hb83 := hb83.step hG108 (own_ty_ne hto79.pl_ hty_b83 (by decide))
 replace hb84 := hb84.step hG108 (own_ty_ne hto79.pl_ hty_b84 (by decide))
 replace hb85 := hb85.step hG108 (own_ty_ne hto79.pl_ hty_b85 (by decide))
 replace ho95 := own_kept ho95 hto79.pl_ (by decide) hG108
 replace ho104 := own_kept ho104 hto79.pl_ (by decide) hG108
 replace hty_b80 := TyAt.own hty_b80 hto79.pl_ hG108 (by decide)
 replace hty_b81 := TyAt.own hty_b81 hto79.pl_ hG108 (by decide)
 replace hty_b82 := TyAt.own hty_b82 hto79.pl_ hG108 (by decide)
 replace hty_b83 := TyAt.own hty_b83 hto79.pl_ hG108 (by decide)
 replace hty_b84 := TyAt.own hty_b84 hto79.pl_ hG108 (by decide)
 replace hty_b85 := TyAt.own hty_b85 hto79.pl_ hG108 (by decide)
 replace hto79 := hto79.ppl (pl2 := (n1PV y179 k179 z179 l179)) hG108 ho108 rfl
 have hszp108 : (n1PV y179 k179 z179 l179).length = 3 := rfl
 replace hb85 : Blk w108 b85 [.slice na79 towN.length nc79, .slice pa79 (((n1PV y179 k179 z179 l179)).length) pc79, .slice ca79 1 cc79] := hb85
 obtain ⟨b109, o109, ha109, hh109⟩ := (Row.of_owns hto79.pl_).at (by decide) 1 (by omega)
 refine m_q rfl rfl (fun w' hC' => q_indexAddr Try.underlying27 Try.sizeOf45 rfl ha109 rfl (by omega) rfl) (m_q rfl rfl (fun w' hC' => q_fieldAddr (o' := 2) rfl fld45_2 rfl) (m_last rfl rfl rfl (o_store_ownc (j := 5) (v := vint 0) Try.sizeOf3 rfl ha109 rfl rfl rfl hto79.pl_ (Nat.le_of_ble_eq_true rfl) rfl ?_)))
 intro w110 hz110 ho110 hG110
 replace hB := below_own hB hG110 hto79.pl_ (by omega) hsz
 replace hsz := Nat.le_trans hsz hG110.size
 have hgr110 : ∀ g, (Value.slice pa79 (n1PV y179 k179 z179 l179).length pc79).ownBlock = some g → w78.heap.size ≤ g ∧ g < w79.heap.size := fun g hg => ⟨own_block_ge hto79.pl_ hg, hto79.lt.2.1 g hg⟩
 replace hto74 := hto74.keep hG110 (fun g hg => by have := hgr110 g hg; omega)
 replace hszL74 := Nat.le_trans hszL74 hG110.size
 replace hto75 := hto75.keep hG110 (fun g hg => by have := hgr110 g hg; omega)
 replace hszL75 := Nat.le_trans hszL75 hG110.size
 replace hto76 := hto76.keep hG110 (fun g hg => by have := hgr110 g hg; omega)
 replace hszL76 := Nat.le_trans hszL76 hG110.size
 replace hto77 := hto77.keep hG110 (fun g hg => by have := hgr110 g hg; omega)
 replace hszL77 := Nat.le_trans hszL77 hG110.size
 replace hto78 := hto78.keep hG110 (fun g hg => by have := hgr110 g hg; omega)
 replace hszL78 := Nat.le_trans hszL78 hG110.size
 replace hszL79 := Nat.le_trans hszL79 hG110.size
 replace hb80 := hb80.step hG110 (own_ty_ne hto79.pl_ hty_b80 (by decide))
 replace hb81 := hb81.step hG110 (own_ty_ne hto79.pl_ hty_b81 (by decide))
 replace hb82 := hb82.step hG110 (own_ty_ne hto79.pl_ hty_b82 (by decide))
 replace hb83 := hb83.step hG110 (own_ty_ne hto79.pl_ hty_b83 (by decide))
 replace hb84 := hb84.step hG110 (own_ty_ne hto79.pl_ hty_b84 (by decide))
 replace hb85 := hb85.step hG110 (own_ty_ne hto79.pl_ hty_b85 (by decide))
 replace ho95 := own_kept ho95 hto79.pl_ (by decide) hG110
 replace ho104 := own_kept ho104 hto79.pl_ (by decide) hG110
 replace hty_b80 := TyAt.own hty_b80 hto79.pl_ hG110 (by decide)
 replace hty_b81 := TyAt.own hty_b81 hto79.pl_ hG110 (by decide)
 replace hty_b82 := TyAt.own hty_b82 hto79.pl_ hG110 (by decide)
 replace hty_b83 := TyAt.own hty_b83 hto79.pl_ hG110 (by decide)
 replace hty_b84 := TyAt.own hty_b84 hto79.pl_ hG110 (by decide)
 replace hty_b85 := TyAt.own hty_b85 hto79.pl_ hG110 (by decide)
 replace hto79 := hto79.ppl (pl2 := (n2PV y179 k179 z179 l179)) hG110 ho110 rfl
 have hszp110 : (n2PV y179 k179 z179 l179).length = 3 := rfl
 replace hb85 : Blk w110 b85 [.slice na79 towN.length nc79, .slice pa79 (((n2PV y179 k179 z179 l179)).length) pc79, .slice ca79 1 cc79] := hb85
 refine m_nil (r_forget [(8, .pointer _), (9, .pointer _), (10, .pointer _), (11, .pointer _), (12, .pointer _), (13, .pointer _)] ⟨rfl, rfl, rfl, rfl, rfl, rfl, trivial⟩ (fun e111 => (r_seq (r_region' (l_o (o_call Try.call7 rfl (glass7_ret _) rfl ?_))))))
 rintro _ w112 ⟨ga112, gc112, rfl, hgo112, hE112⟩
 have hszk74_112 := hszL74
 have hszk75_112 := hszL75
 have hszk76_112 := hszL76
 have hszk77_112 := hszL77
 have hszk78_112 := hszL78
 have hszk79_112 := hszL79
 have hszw112 : w.heap.size ≤ w110.heap.size := hsz
 have hszi112 := hE112.size
 replace hB := below_ext hB hE112 hsz
 replace hto74 := hto74.ext hE112
 replace hszL74 := Nat.le_trans hszL74 hE112.size
 replace hto75 := hto75.ext hE112
 replace hszL75 := Nat.le_trans hszL75 hE112.size
 replace hto76 := hto76.ext hE112
 replace hszL76 := Nat.le_trans hszL76 hE112.size
 replace hto77 := hto77.ext hE112
 replace hszL77 := Nat.le_trans hszL77 hE112.size
 replace hto78 := hto78.ext hE112
 replace hszL78 := Nat.le_trans hszL78 hE112.size
 replace hto79 := hto79.ext hE112
 replace hszL79 := Nat.le_trans hszL79 hE112.size
 replace hb80 := hb80.ext hE112
 replace hty_b80 := hty_b80.ext hE112
 replace hb81 := hb81.ext hE112
 replace hty_b81 := hty_b81.ext hE112
 replace hb82 := hb82.ext hE112
 replace hty_b82 := hty_b82.ext hE112
 replace hb83 := hb83.ext hE112
 replace hty_b83 := hty_b83.ext hE112
 replace hb84 := hb84.ext hE112
 replace hty_b84 := hty_b84.ext hE112
 replace hb85 := hb85.ext hE112
 replace hty_b85 := hty_b85.ext hE112
 replace ho95 := own_ext ho95 hE112
 replace ho104 := own_ext ho104 hE112
 replace hsz := Nat.le_trans hsz hE112.size
 have hszL112 : w112.heap.size ≤ w112.heap.size := Nat.le_refl _
 refine l_o (o_call Try.call7 rfl (glass7_ret _) rfl ?_)
 rintro _ w113 ⟨ga113, gc113, rfl, hgo113, hE113⟩
 have hszk74_113 := hszL74
 have hszk75_113 := hszL75
 have hszk76_113 := hszL76
 have hszk77_113 := hszL77
 have hszk78_113 := hszL78
 have hszk79_113 := hszL79
 have hszk112_113 := hszL112
 have hszw113 : w.heap.size ≤ w112.heap.size := hsz
 have hszi113 := hE113.size
 replace hB := below_ext hB hE113 hsz
 replace hto74 := hto74.ext hE113
 replace hszL74 := Nat.le_trans hszL74 hE113.size
 replace hto75 := hto75.ext hE113
 replace hszL75 := Nat.le_trans hszL75 hE113.size
 replace hto76 := hto76.ext hE113
 replace hszL76 := Nat.le_trans hszL76 hE113.size
 replace hto77 := hto77.ext hE113
 replace hszL77 := Nat.le_trans hszL77 hE113.size
 replace hto78 := hto78.ext hE113
 replace hszL78 := Nat.le_trans hszL78 hE113.size
 replace hto79 := hto79.ext hE113
 replace hszL79 := Nat.le_trans hszL79 hE113.size
 replace hb80 := hb80.ext hE113
 replace hty_b80 := hty_b80.ext hE113
 replace hb81 := hb81.ext hE113
 replace hty_b81 := hty_b81.ext hE113
 replace hb82 := hb82.ext hE113
 replace hty_b82 := hty_b82.ext hE113
 replace hb83 := hb83.ext hE113
 replace hty_b83 := hty_b83.ext hE113
 replace hb84 := hb84.ext hE113
 replace hty_b84 := hty_b84.ext hE113
 replace hb85 := hb85.ext hE113
 replace hty_b85 := hty_b85.ext hE113
 replace ho95 := own_ext ho95 hE113
 replace ho104 := own_ext ho104 hE113
 replace hgo112 := hgo112.ext hE113
 replace hszL112 := Nat.le_trans hszL112 hE113.size
 replace hsz := Nat.le_trans hsz hE113.size
 have hszL113 : w113.heap.size ≤ w113.heap.size := Nat.le_refl _
 refine l_o (o_call Try.call7 rfl (glass7_ret _) rfl ?_)
 rintro _ w114 ⟨ga114, gc114, rfl, hgo114, hE114⟩
 have hszk74_114 := hszL74
 have hszk75_114 := hszL75
 have hszk76_114 := hszL76
 have hszk77_114 := hszL77
 have hszk78_114 := hszL78
 have hszk79_114 := hszL79
 have hszk112_114 := hszL112
 have hszk113_114 := hszL113
 have hszw114 : w.heap.size ≤ w113.heap.size := hsz
 have hszi114 := hE114.size
 replace hB := below_ext hB hE114 hsz
 replace hto74 := hto74.ext hE114
 replace hszL74 := Nat.le_trans hszL74 hE114.size
 replace hto75 := hto75.ext hE114
 replace hszL75 := Nat.le_trans hszL75 hE114.size
 replace hto76 := hto76.ext hE114
 replace hszL76 := Nat.le_trans hszL76 hE114.size
 replace hto77 := hto77.ext hE114
 replace hszL77 := Nat.le_trans hszL77 hE114.size
 replace hto78 := hto78.ext hE114
 replace hszL78 := Nat.le_trans hszL78 hE114.size
 replace hto79 := hto79.ext hE114
 replace hszL79 := Nat.le_trans hszL79 hE114.size
 replace hb80 := hb80.ext hE114
 replace hty_b80 := hty_b80.ext hE114
 replace hb81 := hb81.ext hE114
 replace hty_b81 := hty_b81.ext hE114
 replace hb82 := hb82.ext hE114
 replace hty_b82 := hty_b82.ext hE114
 replace hb83 := hb83.ext hE114
 replace hty_b83 := hty_b83.ext hE114
 replace hb84 := hb84.ext hE114
 replace hty_b84 := hty_b84.ext hE114
 replace hb85 := hb85.ext hE114
 replace hty_b85 := hty_b85.ext hE114
 replace ho95 := own_ext ho95 hE114
 replace ho104 := own_ext ho104 hE114
 replace hgo112 := hgo112.ext hE114
 replace hszL112 := Nat.le_trans hszL112 hE114.size
 replace hgo113 := hgo113.ext hE114
 replace hszL113 := Nat.le_trans hszL113 hE114.size
 replace hsz := Nat.le_trans hsz hE114.size
 have hszL114 : w114.heap.size ≤ w114.heap.size := Nat.le_refl _
 refine l_o (o_call Try.call7 rfl (glass7_ret _) rfl ?_)
 rintro _ w115 ⟨ga115, gc115, rfl, hgo115, hE115⟩
 have hszk74_115 := hszL74
 have hszk75_115 := hszL75
 have hszk76_115 := hszL76
 have hszk77_115 := hszL77
 have hszk78_115 := hszL78
 have hszk79_115 := hszL79
 have hszk112_115 := hszL112
 have hszk113_115 := hszL113
 have hszk114_115 := hszL114
 have hszw115 : w.heap.size ≤ w114.heap.size := hsz
 have hszi115 := hE115.size
 replace hB := below_ext hB hE115 hsz
 replace hto74 := hto74.ext hE115
 replace hszL74 := Nat.le_trans hszL74 hE115.size
 replace hto75 := hto75.ext hE115
 replace hszL75 := Nat.le_trans hszL75 hE115.size
 replace hto76 := hto76.ext hE115
 replace hszL76 := Nat.le_trans hszL76 hE115.size
 replace hto77 := hto77.ext hE115
 replace hszL77 := Nat.le_trans hszL77 hE115.size
 replace hto78 := hto78.ext hE115
 replace hszL78 := Nat.le_trans hszL78 hE115.size
 replace hto79 := hto79.ext hE115
 replace hszL79 := Nat.le_trans hszL79 hE115.size
 replace hb80 := hb80.ext hE115
 replace hty_b80 := hty_b80.ext hE115
 replace hb81 := hb81.ext hE115
 replace hty_b81 := hty_b81.ext hE115
 replace hb82 := hb82.ext hE115
 replace hty_b82 := hty_b82.ext hE115
 replace hb83 := hb83.ext hE115
 replace hty_b83 := hty_b83.ext hE115
 replace hb84 := hb84.ext hE115
 replace hty_b84 := hty_b84.ext hE115
 replace hb85 := hb85.ext hE115
 replace hty_b85 := hty_b85.ext hE115
 replace ho95 := own_ext ho95 hE115
 replace ho104 := own_ext ho104 hE115
 replace hgo112 := hgo112.ext hE115
 replace hszL112 := Nat.le_trans hszL112 hE115.size
 replace hgo113 := hgo113.ext hE115
 replace hszL113 := Nat.le_trans hszL113 hE115.size
 replace hszL114 := Nat.le_trans hszL114 hE115.size
 replace hsz := Nat.le_trans hsz hE115.size
 have hszL115 : w115.heap.size ≤ w115.heap.size := Nat.le_refl _
 refine l_o (o_alloct Try.zeroValue35 rfl rfl ?_)
 intro b116 w116 hzl116 hzr116 _ hb116 hty_b116 hE116
 have hne_b80_b116 : b80 ≠ b116 := by have := hb80.lt; omega
 have hne_b81_b116 : b81 ≠ b116 := by have := hb81.lt; omega
 have hne_b82_b116 : b82 ≠ b116 := by have := hb82.lt; omega
 have hne_b83_b116 : b83 ≠ b116 := by have := hb83.lt; omega
 have hne_b84_b116 : b84 ≠ b116 := by have := hb84.lt; omega
 have hne_b85_b116 : b85 ≠ b116 := by have := hb85.lt; omega
 have hbs_b116 : w.heap.size ≤ b116 := Nat.le_trans hsz hzl116
 replace hB := below_ext hB hE116 hsz
 replace hto74 := hto74.ext hE116
 replace hszL74 := Nat.le_trans hszL74 hE116.size
 replace hto75 := hto75.ext hE116
 replace hszL75 := Nat.le_trans hszL75 hE116.size
 replace hto76 := hto76.ext hE116
 replace hszL76 := Nat.le_trans hszL76 hE116.size
 replace hto77 := hto77.ext hE116
 replace hszL77 := Nat.le_trans hszL77 hE116.size
 replace hto78 := hto78.ext hE116
 replace hszL78 := Nat.le_trans hszL78 hE116.size
 replace hto79 := hto79.ext hE116
 replace hszL79 := Nat.le_trans hszL79 hE116.size
 replace hb80 := hb80.ext hE116
 replace hty_b80 := hty_b80.ext hE116
 replace hb81 := hb81.ext hE116
 replace hty_b81 := hty_b81.ext hE116
 replace hb82 := hb82.ext hE116
 replace hty_b82 := hty_b82.ext hE116
 replace hb83 := hb83.ext hE116
 replace hty_b83 := hty_b83.ext hE116
 replace hb84 := hb84.ext hE116
 replace hty_b84 := hty_b84.ext hE116
 replace hb85 := hb85.ext hE116
 replace hty_b85 := hty_b85.ext hE116
 replace ho95 := own_ext ho95 hE116
 replace ho104 := own_ext ho104 hE116
 replace hgo112 := hgo112.ext hE116
 replace hszL112 := Nat.le_trans hszL112 hE116.size
 replace hgo113 := hgo113.ext hE116
 replace hszL113 := Nat.le_trans hszL113 hE116.size
 replace hszL114 := Nat.le_trans hszL114 hE116.size
 replace hgo115 := hgo115.ext hE116
 replace hszL115 := Nat.le_trans hszL115 hE116.size
 replace hsz := Nat.le_trans hsz hE116.size
 refine l_o (o_alloct Try.zeroValue35 rfl rfl ?_)
 intro b117 w117 hzl117 hzr117 _ hb117 hty_b117 hE117
 have hne_b80_b117 : b80 ≠ b117 := by have := hb80.lt; omega
 have hne_b81_b117 : b81 ≠ b117 := by have := hb81.lt; omega
 have hne_b82_b117 : b82 ≠ b117 := by have := hb82.lt; omega
 have hne_b83_b117 : b83 ≠ b117 := by have := hb83.lt; omega
 have hne_b84_b117 : b84 ≠ b117 := by have := hb84.lt; omega
 have hne_b85_b117 : b85 ≠ b117 := by have := hb85.lt; omega
 have hne_b116_b117 : b116 ≠ b117 := by have := hb116.lt; omega
 have hbs_b117 : w.heap.size ≤ b117 := Nat.le_trans hsz hzl117
 replace hB := below_ext hB hE117 hsz
 replace hto74 := hto74.ext hE117
 replace hszL74 := Nat.le_trans hszL74 hE117.size
 replace hto75 := hto75.ext hE117
 replace hszL75 := Nat.le_trans hszL75 hE117.size
 replace hto76 := hto76.ext hE117
 replace hszL76 := Nat.le_trans hszL76 hE117.size
 replace hto77 := hto77.ext hE117
 replace hszL77 := Nat.le_trans hszL77 hE117.size
 replace hto78 := hto78.ext hE117
 replace hszL78 := Nat.le_trans hszL78 hE117.size
 replace hto79 := hto79.ext hE117
 replace hszL79 := Nat.le_trans hszL79 hE117.size
 replace hb80 := hb80.ext hE117
 replace hty_b80 := hty_b80.ext hE117
 replace hb81 := hb81.ext hE117
 replace hty_b81 := hty_b81.ext hE117
 replace hb82 := hb82.ext hE117
 replace hty_b82 := hty_b82.ext hE117
 replace hb83 := hb83.ext hE117
 replace hty_b83 := hty_b83.ext hE117
 replace hb84 := hb84.ext hE117
 replace hty_b84 := hty_b84.ext hE117
 replace hb85 := hb85.ext hE117
 replace hty_b85 := hty_b85.ext hE117
 replace ho95 := own_ext ho95 hE117
 replace ho104 := own_ext ho104 hE117
 replace hgo112 := hgo112.ext hE117
 replace hszL112 := Nat.le_trans hszL112 hE117.size
 replace hgo113 := hgo113.ext hE117
 replace hszL113 := Nat.le_trans hszL113 hE117.size
 replace hszL114 := Nat.le_trans hszL114 hE117.size
 replace hgo115 := hgo115.ext hE117
 replace hszL115 := Nat.le_trans hszL115 hE117.size
 replace hb116 := hb116.ext hE117
 replace hty_b116 := hty_b116.ext hE117
 replace hsz := Nat.le_trans hsz hE117.size
 refine l_o (o_alloct Try.zeroValue35 rfl rfl ?_)
 intro b118 w118 hzl118 hzr118 _ hb118 hty_b118 hE118
 have hne_b80_b118 : b80 ≠ b118 := by have := hb80.lt; omega
 have hne_b81_b118 : b81 ≠ b118 := by have := hb81.lt; omega
 have hne_b82_b118 : b82 ≠ b118 := by have := hb82.lt; omega
 have hne_b83_b118 : b83 ≠ b118 := by have := hb83.lt; omega
 have hne_b84_b118 : b84 ≠ b118 := by have := hb84.lt; omega
 have hne_b85_b118 : b85 ≠ b118 := by have := hb85.lt; omega
 have hne_b116_b118 : b116 ≠ b118 := by have := hb116.lt; omega
 have hne_b117_b118 : b117 ≠ b118 := by have := hb117.lt; omega
 have hbs_b118 : w.heap.size ≤ b118 := Nat.le_trans hsz hzl118
 replace hB := below_ext hB hE118 hsz
 replace hto74 := hto74.ext hE118
 replace hszL74 := Nat.le_trans hszL74 hE118.size
 replace hto75 := hto75.ext hE118
 replace hszL75 := Nat.le_trans hszL75 hE118.size
 replace hto76 := hto76.ext hE118
 replace hszL76 := Nat.le_trans hszL76 hE118.size
 replace hto77 := hto77.ext hE118
 replace hszL77 := Nat.le_trans hszL77 hE118.size
 replace hto78 := hto78.ext hE118
 replace hszL78 := Nat.le_trans hszL78 hE118.size
 replace hto79 := hto79.ext hE118
 replace hszL79 := Nat.le_trans hszL79 hE118.size
 replace hb80 := hb80.ext hE118
 replace hty_b80 := hty_b80.ext hE118
 replace hb81 := hb81.ext hE118
 replace hty_b81 := hty_b81.ext hE118
 replace hb82 := hb82.ext hE118
 replace hty_b82 := hty_b82.ext hE118
 replace hb83 := hb83.ext hE118
 replace hty_b83 := hty_b83.ext hE118
 replace hb84 := hb84.ext hE118
 replace hty_b84 := hty_b84.ext hE118
 replace hb85 := hb85.ext hE118
 replace hty_b85 := hty_b85.ext hE118
 replace ho95 := own_ext ho95 hE118
 replace ho104 := own_ext ho104 hE118
 replace hgo112 := hgo112.ext hE118
 replace hszL112 := Nat.le_trans hszL112 hE118.size
 replace hgo113 := hgo113.ext hE118
 replace hszL113 := Nat.le_trans hszL113 hE118.size
 replace hszL114 := Nat.le_trans hszL114 hE118.size
 replace hgo115 := hgo115.ext hE118
 replace hszL115 := Nat.le_trans hszL115 hE118.size
 replace hb116 := hb116.ext hE118
 replace hty_b116 := hty_b116.ext hE118
 replace hb117 := hb117.ext hE118
 replace hty_b117 := hty_b117.ext hE118
 replace hsz := Nat.le_trans hsz hE118.size
 refine l_o (o_alloct Try.zeroValue35 rfl rfl ?_)
 intro b119 w119 hzl119 hzr119 _ hb119 hty_b119 hE119
 have hne_b80_b119 : b80 ≠ b119 := by have := hb80.lt; omega
 have hne_b81_b119 : b81 ≠ b119 := by have := hb81.lt; omega
 have hne_b82_b119 : b82 ≠ b119 := by have := hb82.lt; omega
 have hne_b83_b119 : b83 ≠ b119 := by have := hb83.lt; omega
 have hne_b84_b119 : b84 ≠ b119 := by have := hb84.lt; omega
 have hne_b85_b119 : b85 ≠ b119 := by have := hb85.lt; omega
 have hne_b116_b119 : b116 ≠ b119 := by have := hb116.lt; omega
 have hne_b117_b119 : b117 ≠ b119 := by have := hb117.lt; omega
 have hne_b118_b119 : b118 ≠ b119 := by have := hb118.lt; omega
 have hbs_b119 : w.heap.size ≤ b119 := Nat.le_trans hsz hzl119
 replace hB := below_ext hB hE119 hsz
 replace hto74 := hto74.ext hE119
 replace hszL74 := Nat.le_trans hszL74 hE119.size
 replace hto75 := hto75.ext hE119
 replace hszL75 := Nat.le_trans hszL75 hE119.size
 replace hto76 := hto76.ext hE119
 replace hszL76 := Nat.le_trans hszL76 hE119.size
 replace hto77 := hto77.ext hE119
 replace hszL77 := Nat.le_trans hszL77 hE119.size
 replace hto78 := hto78.ext hE119
 replace hszL78 := Nat.le_trans hszL78 hE119.size
 replace hto79 := hto79.ext hE119
 replace hszL79 := Nat.le_trans hszL79 hE119.size
 replace hb80 := hb80.ext hE119
 replace hty_b80 := hty_b80.ext hE119
 replace hb81 := hb81.ext hE119
 replace hty_b81 := hty_b81.ext hE119
 replace hb82 := hb82.ext hE119
 replace hty_b82 := hty_b82.ext hE119
 replace hb83 := hb83.ext hE119
 replace hty_b83 := hty_b83.ext hE119
 replace hb84 := hb84.ext hE119
 replace hty_b84 := hty_b84.ext hE119
 replace hb85 := hb85.ext hE119
 replace hty_b85 := hty_b85.ext hE119
 replace ho95 := own_ext ho95 hE119
 replace ho104 := own_ext ho104 hE119
 replace hgo112 := hgo112.ext hE119
 replace hszL112 := Nat.le_trans hszL112 hE119.size
 replace hgo113 := hgo113.ext hE119
 replace hszL113 := Nat.le_trans hszL113 hE119.size
 replace hszL114 := Nat.le_trans hszL114 hE119.size
 replace hgo115 := hgo115.ext hE119
 replace hszL115 := Nat.le_trans hszL115 hE119.size
 replace hb116 := hb116.ext hE119
 replace hty_b116 := hty_b116.ext hE119
 replace hb117 := hb117.ext hE119
 replace hty_b117 := hty_b117.ext hE119
 replace hb118 := hb118.ext hE119
 replace hty_b118 := hty_b118.ext hE119
 replace hsz := Nat.le_trans hsz hE119.size
 refine l_o (o_storet (vs := [vint 60, .slice ga112 glassG.length gc112]) (cs' := [vint 60, .slice ga112 glassG.length gc112]) Try.sizeOf35 rfl rfl rfl rfl hb116 (Nat.le_of_ble_eq_true rfl) rfl rfl ?_)
 intro w120 hz120 hb116 hT120 hG120
 replace hB := below_upd hB hG120 hsz (by omega)
 replace hsz : w.heap.size ≤ w120.heap.size := by rw [hz120]; exact hsz
 replace hto74 := hto74.keep hG120 (fun g hg => by cases hg; right; omega)
 replace hszL74 := Nat.le_trans hszL74 hG120.size
 replace hto75 := hto75.keep hG120 (fun g hg => by cases hg; right; omega)
 replace hszL75 := Nat.le_trans hszL75 hG120.size
 replace hto76 := hto76.keep hG120 (fun g hg => by cases hg; right; omega)
 replace hszL76 := Nat.le_trans hszL76 hG120.size
 replace hto77 := hto77.keep hG120 (fun g hg => by cases hg; right; omega)
 replace hszL77 := Nat.le_trans hszL77 hG120.size
 replace hto78 := hto78.keep hG120 (fun g hg => by cases hg; right; omega)
 replace hszL78 := Nat.le_trans hszL78 hG120.size
 replace hto79 := hto79.keep hG120 (fun g hg => by cases hg; right; omega)
 replace hszL79 := Nat.le_trans hszL79 hG120.size
 replace hb80 := hb80.upd hG120 (by omega)
 replace hty_b80 := hty_b80.upd hG120 (by omega)
 replace hb81 := hb81.upd hG120 (by omega)
 replace hty_b81 := hty_b81.upd hG120 (by omega)
 replace hb82 := hb82.upd hG120 (by omega)
 replace hty_b82 := hty_b82.upd hG120 (by omega)
 replace hb83 := hb83.upd hG120 (by omega)
 replace hty_b83 := hty_b83.upd hG120 (by omega)
 replace hb84 := hb84.upd hG120 (by omega)
 replace hty_b84 := hty_b84.upd hG120 (by omega)
 replace hb85 := hb85.upd hG120 (by omega)
 replace hty_b85 := hty_b85.upd hG120 (by omega)
 replace ho95 := own_ty_upd ho95 hty_b116 hG120 (by decide)
 replace ho104 := own_ty_upd ho104 hty_b116 hG120 (by decide)
 replace hgo112 := hgo112.keep hG120 (fun g hg => by cases hg; right; omega)
 replace hszL112 := Nat.le_trans hszL112 hG120.size
 replace hgo113 := hgo113.keep hG120 (fun g hg => by cases hg; right; omega)
 replace hszL113 := Nat.le_trans hszL113 hG120.size
 replace hszL114 := Nat.le_trans hszL114 hG120.size
 replace hgo115 := hgo115.keep hG120 (fun g hg => by cases hg; right; omega)
 replace hszL115 := Nat.le_trans hszL115 hG120.size
 replace hb117 := hb117.upd hG120 (by omega)
 replace hty_b117 := hty_b117.upd hG120 (by omega)
 replace hb118 := hb118.upd hG120 (by omega)
 replace hty_b118 := hty_b118.upd hG120 (by omega)
 replace hb119 := hb119.upd hG120 (by omega)
 replace hty_b119 := hty_b119.upd hG120 (by omega)
 replace hty_b116 := hT120 _ hty_b116
 refine l_o (o_storet (vs := [vint 60, .slice ga113 glassG.length gc113]) (cs' := [vint 60, .slice ga113 glassG.length gc113]) Try.sizeOf35 rfl rfl rfl rfl hb117 (Nat.le_of_ble_eq_true rfl) rfl rfl ?_)
 intro w121 hz121 hb117 hT121 hG121
 replace hB := below_upd hB hG121 hsz (by omega)
 replace hsz : w.heap.size ≤ w121.heap.size := by rw [hz121]; exact hsz
 replace hto74 := hto74.keep hG121 (fun g hg => by cases hg; right; omega)
 replace hszL74 := Nat.le_trans hszL74 hG121.size
 replace hto75 := hto75.keep hG121 (fun g hg => by cases hg; right; omega)
 replace hszL75 := Nat.le_trans hszL75 hG121.size
 replace hto76 := hto76.keep hG121 (fun g hg => by cases hg; right; omega)
 replace hszL76 := Nat.le_trans hszL76 hG121.size
 replace hto77 := hto77.keep hG121 (fun g hg => by cases hg; right; omega)
 replace hszL77 := Nat.le_trans hszL77 hG121.size
 replace hto78 := hto78.keep hG121 (fun g hg => by cases hg; right; omega)
 replace hszL78 := Nat.le_trans hszL78 hG121.size
 replace hto79 := hto79.keep hG121 (fun g hg => by cases hg; right; omega)
 replace hszL79 := Nat.le_trans hszL79 hG121.size
 replace hb80 := hb80.upd hG121 (by omega)
 replace hty_b80 := hty_b80.upd hG121 (by omega)
 replace hb81 := hb81.upd hG121 (by omega)
 replace hty_b81 := hty_b81.upd hG121 (by omega)
 replace hb82 := hb82.upd hG121 (by omega)
 replace hty_b82 := hty_b82.upd hG121 (by omega)
 replace hb83 := hb83.upd hG121 (by omega)
 replace hty_b83 := hty_b83.upd hG121 (by omega)
 replace hb84 := hb84.upd hG121 (by omega)
 replace hty_b84 := hty_b84.upd hG121 (by omega)
 replace hb85 := hb85.upd hG121 (by omega)
 replace hty_b85 := hty_b85.upd hG121 (by omega)
 replace ho95 := own_ty_upd ho95 hty_b117 hG121 (by decide)
 replace ho104 := own_ty_upd ho104 hty_b117 hG121 (by decide)
 replace hgo112 := hgo112.keep hG121 (fun g hg => by cases hg; right; omega)
 replace hszL112 := Nat.le_trans hszL112 hG121.size
 replace hgo113 := hgo113.keep hG121 (fun g hg => by cases hg; right; omega)
 replace hszL113 := Nat.le_trans hszL113 hG121.size
 replace hszL114 := Nat.le_trans hszL114 hG121.size
 replace hgo115 := hgo115.keep hG121 (fun g hg => by cases hg; right; omega)
 replace hszL115 := Nat.le_trans hszL115 hG121.size
 replace hb116 := hb116.upd hG121 (by omega)
 replace hty_b116 := hty_b116.upd hG121 (by omega)
 replace hb118 := hb118.upd hG121 (by omega)
 replace hty_b118 := hty_b118.upd hG121 (by omega)
 replace hb119 := hb119.upd hG121 (by omega)
 replace hty_b119 := hty_b119.upd hG121 (by omega)
 replace hty_b117 := hT121 _ hty_b117
 refine l_o (o_storet (vs := [vint 60, .slice ga114 glassG.length gc114]) (cs' := [vint 60, .slice ga114 glassG.length gc114]) Try.sizeOf35 rfl rfl rfl rfl hb118 (Nat.le_of_ble_eq_true rfl) rfl rfl ?_)
 intro w122 hz122 hb118 hT122 hG122
 replace hB := below_upd hB hG122 hsz (by omega)
 replace hsz : w.heap.size ≤ w122.heap.size := by rw [hz122]; exact hsz
 replace hto74 := hto74.keep hG122 (fun g hg => by cases hg; right; omega)
 replace hszL74 := Nat.le_trans hszL74 hG122.size
 replace hto75 := hto75.keep hG122 (fun g hg => by cases hg; right; omega)
 replace hszL75 := Nat.le_trans hszL75 hG122.size
 replace hto76 := hto76.keep hG122 (fun g hg => by cases hg; right; omega)
 replace hszL76 := Nat.le_trans hszL76 hG122.size
 replace hto77 := hto77.keep hG122 (fun g hg => by cases hg; right; omega)
 replace hszL77 := Nat.le_trans hszL77 hG122.size
 replace hto78 := hto78.keep hG122 (fun g hg => by cases hg; right; omega)
 replace hszL78 := Nat.le_trans hszL78 hG122.size
 replace hto79 := hto79.keep hG122 (fun g hg => by cases hg; right; omega)
 replace hszL79 := Nat.le_trans hszL79 hG122.size
 replace hb80 := hb80.upd hG122 (by omega)
 replace hty_b80 := hty_b80.upd hG122 (by omega)
 replace hb81 := hb81.upd hG122 (by omega)
 replace hty_b81 := hty_b81.upd hG122 (by omega)
 replace hb82 := hb82.upd hG122 (by omega)
 replace hty_b82 := hty_b82.upd hG122 (by omega)
 replace hb83 := hb83.upd hG122 (by omega)
 replace hty_b83 := hty_b83.upd hG122 (by omega)
 replace hb84 := hb84.upd hG122 (by omega)
 replace hty_b84 := hty_b84.upd hG122 (by omega)
 replace hb85 := hb85.upd hG122 (by omega)
 replace hty_b85 := hty_b85.upd hG122 (by omega)
 replace ho95 := own_ty_upd ho95 hty_b118 hG122 (by decide)
 replace ho104 := own_ty_upd ho104 hty_b118 hG122 (by decide)
 replace hgo112 := hgo112.keep hG122 (fun g hg => by cases hg; right; omega)
 replace hszL112 := Nat.le_trans hszL112 hG122.size
 replace hgo113 := hgo113.keep hG122 (fun g hg => by cases hg; right; omega)
 replace hszL113 := Nat.le_trans hszL113 hG122.size
 replace hszL114 := Nat.le_trans hszL114 hG122.size
 replace hgo115 := hgo115.keep hG122 (fun g hg => by cases hg; right; omega)
 replace hszL115 := Nat.le_trans hszL115 hG122.size
 replace hb116 := hb116.upd hG122 (by omega)
 replace hty_b116 := hty_b116.upd hG122 (by omega)
 replace hb117 := hb117.upd hG122 (by omega)
 replace hty_b117 := hty_b117.upd hG122 (by omega)
 replace hb119 := hb119.upd hG122 (by omega)
 replace hty_b119 := hty_b119.upd hG122 (by omega)
 replace hty_b118 := hT122 _ hty_b118
 refine l_o (o_storet (vs := [vint 60, .slice ga115 glassG.length gc115]) (cs' := [vint 60, .slice ga115 glassG.length gc115]) Try.sizeOf35 rfl rfl rfl rfl hb119 (Nat.le_of_ble_eq_true rfl) rfl rfl ?_)
 intro w123 hz123 hb119 hT123 hG123
 replace hB := below_upd hB hG123 hsz (by omega)
 replace hsz : w.heap.size ≤ w123.heap.size := by rw [hz123]; exact hsz
 replace hto74 := hto74.keep hG123 (fun g hg => by cases hg; right; omega)
 replace hszL74 := Nat.le_trans hszL74 hG123.size
 replace hto75 := hto75.keep hG123 (fun g hg => by cases hg; right; omega)
 replace hszL75 := Nat.le_trans hszL75 hG123.size
 replace hto76 := hto76.keep hG123 (fun g hg => by cases hg; right; omega)
 replace hszL76 := Nat.le_trans hszL76 hG123.size
 replace hto77 := hto77.keep hG123 (fun g hg => by cases hg; right; omega)
 replace hszL77 := Nat.le_trans hszL77 hG123.size
 replace hto78 := hto78.keep hG123 (fun g hg => by cases hg; right; omega)
 replace hszL78 := Nat.le_trans hszL78 hG123.size
 replace hto79 := hto79.keep hG123 (fun g hg => by cases hg; right; omega)
 replace hszL79 := Nat.le_trans hszL79 hG123.size
 replace hb80 := hb80.upd hG123 (by omega)
 replace hty_b80 := hty_b80.upd hG123 (by omega)
 replace hb81 := hb81.upd hG123 (by omega)
 replace hty_b81 := hty_b81.upd hG123 (by omega)
 replace hb82 := hb82.upd hG123 (by omega)
 replace hty_b82 := hty_b82.upd hG123 (by omega)
 replace hb83 := hb83.upd hG123 (by omega)
 replace hty_b83 := hty_b83.upd hG123 (by omega)
 replace hb84 := hb84.upd hG123 (by omega)
 replace hty_b84 := hty_b84.upd hG123 (by omega)
 replace hb85 := hb85.upd hG123 (by omega)
 replace hty_b85 := hty_b85.upd hG123 (by omega)
 replace ho95 := own_ty_upd ho95 hty_b119 hG123 (by decide)
 replace ho104 := own_ty_upd ho104 hty_b119 hG123 (by decide)
 replace hgo112 := hgo112.keep hG123 (fun g hg => by cases hg; right; omega)
 replace hszL112 := Nat.le_trans hszL112 hG123.size
 replace hgo113 := hgo113.keep hG123 (fun g hg => by cases hg; right; omega)
 replace hszL113 := Nat.le_trans hszL113 hG123.size
 replace hszL114 := Nat.le_trans hszL114 hG123.size
 replace hgo115 := hgo115.keep hG123 (fun g hg => by cases hg; right; omega)
 replace hszL115 := Nat.le_trans hszL115 hG123.size
 replace hb116 := hb116.upd hG123 (by omega)
 replace hty_b116 := hty_b116.upd hG123 (by omega)
 replace hb117 := hb117.upd hG123 (by omega)
 replace hty_b117 := hty_b117.upd hG123 (by omega)
 replace hb118 := hb118.upd hG123 (by omega)
 replace hty_b118 := hty_b118.upd hG123 (by omega)
 replace hty_b119 := hT123 _ hty_b119
 refine l_nil (r_seq (r_region' (l_q (q_fieldAddr (o' := 0) rfl fld35_0 rfl) (l_o (o_storet (vs := [vint 101]) (cs' := [vint 101, .slice ga112 glassG.length gc112]) Try.sizeOf3 rfl rfl rfl rfl hb116 (Nat.le_of_ble_eq_true rfl) rfl rfl ?_)))))
 intro w124 hz124 hb116 hT124 hG124
 replace hB := below_upd hB hG124 hsz (by omega)
 replace hsz : w.heap.size ≤ w124.heap.size := by rw [hz124]; exact hsz
 replace hto74 := hto74.keep hG124 (fun g hg => by cases hg; right; omega)
 replace hszL74 := Nat.le_trans hszL74 hG124.size
 replace hto75 := hto75.keep hG124 (fun g hg => by cases hg; right; omega)
 replace hszL75 := Nat.le_trans hszL75 hG124.size
 replace hto76 := hto76.keep hG124 (fun g hg => by cases hg; right; omega)
 replace hszL76 := Nat.le_trans hszL76 hG124.size
 replace hto77 := hto77.keep hG124 (fun g hg => by cases hg; right; omega)
 replace hszL77 := Nat.le_trans hszL77 hG124.size
 replace hto78 := hto78.keep hG124 (fun g hg => by cases hg; right; omega)
 replace hszL78 := Nat.le_trans hszL78 hG124.size
 replace hto79 := hto79.keep hG124 (fun g hg => by cases hg; right; omega)
 replace hszL79 := Nat.le_trans hszL79 hG124.size
 replace hb80 := hb80.upd hG124 (by omega)
 replace hty_b80 := hty_b80.upd hG124 (by omega)
 replace hb81 := hb81.upd hG124 (by omega)
 replace hty_b81 := hty_b81.upd hG124 (by omega)
 replace hb82 := hb82.upd hG124 (by omega)
 replace hty_b82 := hty_b82.upd hG124 (by omega)
 replace hb83 := hb83.upd hG124 (by omega)
 replace hty_b83 := hty_b83.upd hG124 (by omega)
 replace hb84 := hb84.upd hG124 (by omega)
 replace hty_b84 := hty_b84.upd hG124 (by omega)
 replace hb85 := hb85.upd hG124 (by omega)
 replace hty_b85 := hty_b85.upd hG124 (by omega)
 replace ho95 := own_ty_upd ho95 hty_b116 hG124 (by decide)
 replace ho104 := own_ty_upd ho104 hty_b116 hG124 (by decide)
 replace hgo112 := hgo112.keep hG124 (fun g hg => by cases hg; right; omega)
 replace hszL112 := Nat.le_trans hszL112 hG124.size
 replace hgo113 := hgo113.keep hG124 (fun g hg => by cases hg; right; omega)
 replace hszL113 := Nat.le_trans hszL113 hG124.size
 replace hszL114 := Nat.le_trans hszL114 hG124.size
 replace hgo115 := hgo115.keep hG124 (fun g hg => by cases hg; right; omega)
 replace hszL115 := Nat.le_trans hszL115 hG124.size
 replace hb117 := hb117.upd hG124 (by omega)
 replace hty_b117 := hty_b117.upd hG124 (by omega)
 replace hb118 := hb118.upd hG124 (by omega)
 replace hty_b118 := hty_b118.upd hG124 (by omega)
 replace hb119 := hb119.upd hG124 (by omega)
 replace hty_b119 := hty_b119.upd hG124 (by omega)
 replace hty_b116 := hT124 _ hty_b116
 refine l_nil (r_seq (r_region' (l_q (q_fieldAddr (o' := 1) rfl fld35_1 rfl) (l_q (q_load Try.isAgg31 rfl ((hb117.has (o := 1) rfl)) rfl) ?_))))
 obtain ⟨b125, o125, ha125, hh125⟩ := (Row.of_owns hgo113.row).at (by decide) 0 (by decide)
 refine l_q (q_indexAddr Try.underlying31 Try.sizeOf41 rfl ha125 rfl (by decide) rfl) (l_q (q_fieldAddr (o' := 1) rfl fld41_1 rfl) (l_o (o_store_ownc (j := 1) (v := vint 9) Try.sizeOf3 rfl ha125 rfl rfl rfl hgo113.row (Nat.le_of_ble_eq_true rfl) rfl ?_)))
 intro w126 hz126 ho126 hG126
 replace hB := below_own hB hG126 hgo113.row (by omega) hsz
 replace hsz := Nat.le_trans hsz hG126.size
 have hgr126 : ∀ g, (Value.slice ga113 glassG.length gc113).ownBlock = some g → w112.heap.size ≤ g ∧ g < w113.heap.size := fun g hg => ⟨own_block_ge hgo113.row hg, hgo113.lt g hg⟩
 replace hto74 := hto74.keep hG126 (fun g hg => by have := hgr126 g hg; omega)
 replace hszL74 := Nat.le_trans hszL74 hG126.size
 replace hto75 := hto75.keep hG126 (fun g hg => by have := hgr126 g hg; omega)
 replace hszL75 := Nat.le_trans hszL75 hG126.size
 replace hto76 := hto76.keep hG126 (fun g hg => by have := hgr126 g hg; omega)
 replace hszL76 := Nat.le_trans hszL76 hG126.size
 replace hto77 := hto77.keep hG126 (fun g hg => by have := hgr126 g hg; omega)
 replace hszL77 := Nat.le_trans hszL77 hG126.size
 replace hto78 := hto78.keep hG126 (fun g hg => by have := hgr126 g hg; omega)
 replace hszL78 := Nat.le_trans hszL78 hG126.size
 replace hto79 := hto79.keep hG126 (fun g hg => by have := hgr126 g hg; omega)
 replace hszL79 := Nat.le_trans hszL79 hG126.size
 replace hb80 := hb80.step hG126 (own_ty_ne hgo113.row hty_b80 (by decide))
 replace hb81 := hb81.step hG126 (own_ty_ne hgo113.row hty_b81 (by decide))
 replace hb82 := hb82.step hG126 (own_ty_ne hgo113.row hty_b82 (by decide))
 replace hb83 := hb83.step hG126 (own_ty_ne hgo113.row hty_b83 (by decide))
 replace hb84 := hb84.step hG126 (own_ty_ne hgo113.row hty_b84 (by decide))
 replace hb85 := hb85.step hG126 (own_ty_ne hgo113.row hty_b85 (by decide))
 replace ho95 := own_kept ho95 hgo113.row (by decide) hG126
 replace ho104 := own_kept ho104 hgo113.row (by decide) hG126
 replace hgo112 := hgo112.keep hG126 (fun g hg => by have := hgr126 g hg; omega)
 replace hszL112 := Nat.le_trans hszL112 hG126.size
 replace hszL113 := Nat.le_trans hszL113 hG126.size
 replace hszL114 := Nat.le_trans hszL114 hG126.size
 replace hgo115 := hgo115.keep hG126 (fun g hg => by have := hgr126 g hg; omega)
 replace hszL115 := Nat.le_trans hszL115 hG126.size
 replace hb116 := hb116.step hG126 (own_ty_ne hgo113.row hty_b116 (by decide))
 replace hb117 := hb117.step hG126 (own_ty_ne hgo113.row hty_b117 (by decide))
 replace hb118 := hb118.step hG126 (own_ty_ne hgo113.row hty_b118 (by decide))
 replace hb119 := hb119.step hG126 (own_ty_ne hgo113.row hty_b119 (by decide))
 replace hty_b118 := TyAt.own hty_b118 hgo113.row hG126 (by decide)
 replace hty_b119 := TyAt.own hty_b119 hgo113.row hG126 (by decide)
 replace hgo113 := hgo113.put (G2 := glassL) ho126 rfl
 replace hb117 : Blk w126 b117 [vint 60, .slice ga113 glassL.length gc113] := hb117
 refine l_nil (r_seq (r_region' (l_o (o_makeSlice (n := 9) Try.underlying31 el41 (rfl) (rfl) (by omega) (by unfold maxLen; omega) rfl ?_))))
 intro b127 w127 hzl127 hzr127 _ hb127 hE127 ho127
 have hne_b80_b127 : b80 ≠ b127 := by have := hb80.lt; omega
 have hne_b81_b127 : b81 ≠ b127 := by have := hb81.lt; omega
 have hne_b82_b127 : b82 ≠ b127 := by have := hb82.lt; omega
 have hne_b83_b127 : b83 ≠ b127 := by have := hb83.lt; omega
 have hne_b84_b127 : b84 ≠ b127 := by have := hb84.lt; omega
 have hne_b85_b127 : b85 ≠ b127 := by have := hb85.lt; omega
 have hne_b116_b127 : b116 ≠ b127 := by have := hb116.lt; omega
 have hne_b117_b127 : b117 ≠ b127 := by have := hb117.lt; omega
 have hne_b118_b127 : b118 ≠ b127 := by have := hb118.lt; omega
 have hne_b119_b127 : b119 ≠ b127 := by have := hb119.lt; omega
 have hbs_b127 : w.heap.size ≤ b127 := Nat.le_trans hsz hzl127
 replace hB := below_ext hB hE127 hsz
 replace hto74 := hto74.ext hE127
 replace hszL74 := Nat.le_trans hszL74 hE127.size
 replace hto75 := hto75.ext hE127
 replace hszL75 := Nat.le_trans hszL75 hE127.size
 replace hto76 := hto76.ext hE127
 replace hszL76 := Nat.le_trans hszL76 hE127.size
 replace hto77 := hto77.ext hE127
 replace hszL77 := Nat.le_trans hszL77 hE127.size
 replace hto78 := hto78.ext hE127
 replace hszL78 := Nat.le_trans hszL78 hE127.size
 replace hto79 := hto79.ext hE127
 replace hszL79 := Nat.le_trans hszL79 hE127.size
 replace hb80 := hb80.ext hE127
 replace hb81 := hb81.ext hE127
 replace hb82 := hb82.ext hE127
 replace hb83 := hb83.ext hE127
 replace hb84 := hb84.ext hE127
 replace hb85 := hb85.ext hE127
 replace ho95 := own_ext ho95 hE127
 replace ho104 := own_ext ho104 hE127
 replace hgo112 := hgo112.ext hE127
 replace hszL112 := Nat.le_trans hszL112 hE127.size
 replace hgo113 := hgo113.ext hE127
 replace hszL113 := Nat.le_trans hszL113 hE127.size
 replace hszL114 := Nat.le_trans hszL114 hE127.size
 replace hgo115 := hgo115.ext hE127
 replace hszL115 := Nat.le_trans hszL115 hE127.size
 replace hb116 := hb116.ext hE127
 replace hb117 := hb117.ext hE127
 replace hb118 := hb118.ext hE127
 replace hty_b118 := hty_b118.ext hE127
 replace hb119 := hb119.ext hE127
 replace hty_b119 := hty_b119.ext hE127
 replace hsz := Nat.le_trans hsz hE127.size
 replace ho127 : w127.ownsRow w126.heap.size 41 2 (.slice (some ⟨b127, 0, none⟩) 9 9) 9 (glass9.flatMap RG.enc) := (made9 ▸ ho127)
 refine l_q (q_fieldAddr (o' := 1) rfl fld35_1 rfl) (l_o (o_storet (vs := [.slice (some ⟨b127, 0, none⟩) 9 9]) (cs' := [vint 60, .slice (some ⟨b127, 0, none⟩) 9 9]) Try.sizeOf31 rfl rfl rfl rfl hb118 (Nat.le_of_ble_eq_true rfl) rfl rfl ?_))
 intro w128 hz128 hb118 hT128 hG128
 replace hB := below_upd hB hG128 hsz (by omega)
 replace hsz : w.heap.size ≤ w128.heap.size := by rw [hz128]; exact hsz
 replace hto74 := hto74.keep hG128 (fun g hg => by cases hg; right; omega)
 replace hszL74 := Nat.le_trans hszL74 hG128.size
 replace hto75 := hto75.keep hG128 (fun g hg => by cases hg; right; omega)
 replace hszL75 := Nat.le_trans hszL75 hG128.size
 replace hto76 := hto76.keep hG128 (fun g hg => by cases hg; right; omega)
 replace hszL76 := Nat.le_trans hszL76 hG128.size
 replace hto77 := hto77.keep hG128 (fun g hg => by cases hg; right; omega)
 replace hszL77 := Nat.le_trans hszL77 hG128.size
 replace hto78 := hto78.keep hG128 (fun g hg => by cases hg; right; omega)
 replace hszL78 := Nat.le_trans hszL78 hG128.size
 replace hto79 := hto79.keep hG128 (fun g hg => by cases hg; right; omega)
 replace hszL79 := Nat.le_trans hszL79 hG128.size
 replace hb80 := hb80.upd hG128 (by omega)
 replace hb81 := hb81.upd hG128 (by omega)
 replace hb82 := hb82.upd hG128 (by omega)
 replace hb83 := hb83.upd hG128 (by omega)
 replace hb84 := hb84.upd hG128 (by omega)
 replace hb85 := hb85.upd hG128 (by omega)
 replace ho95 := own_ty_upd ho95 hty_b118 hG128 (by decide)
 replace ho104 := own_ty_upd ho104 hty_b118 hG128 (by decide)
 replace hgo112 := hgo112.keep hG128 (fun g hg => by cases hg; right; omega)
 replace hszL112 := Nat.le_trans hszL112 hG128.size
 replace hgo113 := hgo113.keep hG128 (fun g hg => by cases hg; right; omega)
 replace hszL113 := Nat.le_trans hszL113 hG128.size
 replace hszL114 := Nat.le_trans hszL114 hG128.size
 replace hgo115 := hgo115.keep hG128 (fun g hg => by cases hg; right; omega)
 replace hszL115 := Nat.le_trans hszL115 hG128.size
 replace hb116 := hb116.upd hG128 (by omega)
 replace hb117 := hb117.upd hG128 (by omega)
 replace hb119 := hb119.upd hG128 (by omega)
 replace hty_b119 := hty_b119.upd hG128 (by omega)
 replace ho127 := own_ty_upd ho127 hty_b118 hG128 (by decide)
 refine l_nil (r_forget [(8, .pointer _), (9, .pointer _), (10, .pointer _), (11, .pointer _), (12, .pointer _), (13, .pointer _), (14, .pointer _), (15, .pointer _), (16, .pointer _), (17, .pointer _)] ⟨rfl, rfl, rfl, rfl, rfl, rfl, rfl, rfl, rfl, rfl, trivial⟩ (fun e129 => (r_seq (r_region' (l_q (q_fieldAddr (o' := 0) rfl fld35_0 rfl) (l_o (o_storet (vs := [vint 76]) (cs' := [vint 76, .slice ga115 glassG.length gc115]) Try.sizeOf3 rfl rfl rfl rfl hb119 (Nat.le_of_ble_eq_true rfl) rfl rfl ?_)))))))
 intro w130 hz130 hb119 hT130 hG130
 replace hB := below_upd hB hG130 hsz (by omega)
 replace hsz : w.heap.size ≤ w130.heap.size := by rw [hz130]; exact hsz
 replace hto74 := hto74.keep hG130 (fun g hg => by cases hg; right; omega)
 replace hszL74 := Nat.le_trans hszL74 hG130.size
 replace hto75 := hto75.keep hG130 (fun g hg => by cases hg; right; omega)
 replace hszL75 := Nat.le_trans hszL75 hG130.size
 replace hto76 := hto76.keep hG130 (fun g hg => by cases hg; right; omega)
 replace hszL76 := Nat.le_trans hszL76 hG130.size
 replace hto77 := hto77.keep hG130 (fun g hg => by cases hg; right; omega)
 replace hszL77 := Nat.le_trans hszL77 hG130.size
 replace hto78 := hto78.keep hG130 (fun g hg => by cases hg; right; omega)
 replace hszL78 := Nat.le_trans hszL78 hG130.size
 replace hto79 := hto79.keep hG130 (fun g hg => by cases hg; right; omega)
 replace hszL79 := Nat.le_trans hszL79 hG130.size
 replace hb80 := hb80.upd hG130 (by omega)
 replace hb81 := hb81.upd hG130 (by omega)
 replace hb82 := hb82.upd hG130 (by omega)
 replace hb83 := hb83.upd hG130 (by omega)
 replace hb84 := hb84.upd hG130 (by omega)
 replace hb85 := hb85.upd hG130 (by omega)
 replace ho95 := own_ty_upd ho95 hty_b119 hG130 (by decide)
 replace ho104 := own_ty_upd ho104 hty_b119 hG130 (by decide)
 replace hgo112 := hgo112.keep hG130 (fun g hg => by cases hg; right; omega)
 replace hszL112 := Nat.le_trans hszL112 hG130.size
 replace hgo113 := hgo113.keep hG130 (fun g hg => by cases hg; right; omega)
 replace hszL113 := Nat.le_trans hszL113 hG130.size
 replace hszL114 := Nat.le_trans hszL114 hG130.size
 replace hgo115 := hgo115.keep hG130 (fun g hg => by cases hg; right; omega)
 replace hszL115 := Nat.le_trans hszL115 hG130.size
 replace hb116 := hb116.upd hG130 (by omega)
 replace hb117 := hb117.upd hG130 (by omega)
 replace hb118 := hb118.upd hG130 (by omega)
 replace ho127 := own_ty_upd ho127 hty_b119 hG130 (by decide)
 refine l_nil (r_seq ?_)
 have hppn : ((towPV y174 k174 z174 l174)).map PV.pn = towPl.map PV.pn := rfl
 have hpLn : ([⟨i174, d174, [2, -1, -1]⟩] : List SV).map (·.xs) = towL.map (·.xs) := rfl
 have hbgn : PoBig neN (towPV y174 k174 z174 l174) [⟨i174, d174, [2, -1, -1]⟩] := post_big (nd := neN) hppn hpLn neN_big
 have hppa : ((abPV b95 y175 k175 z175 l175)).map PV.pn = abPl.map PV.pn := rfl
 have hpLa : ([⟨i175, d175, [2, -1, -1]⟩] : List SV).map (·.xs) = towL.map (·.xs) := rfl
 have hbga : PoBig towN (abPV b95 y175 k175 z175 l175) [⟨i175, d175, [2, -1, -1]⟩] := post_big (nd := towN) hppa hpLa abPl_big
 have hppr : ((rePV y176 k176 z176 l176)).map PV.pn = rePl.map PV.pn := rfl
 have hpLr : ([⟨i176, d176, [2, -1, -1]⟩] : List SV).map (·.xs) = towL.map (·.xs) := rfl
 have hbgr : PoBig towN (rePV y176 k176 z176 l176) [⟨i176, d176, [2, -1, -1]⟩] := post_big (nd := towN) hppr hpLr rePl_big
 have hppi : ((towPV y177 k177 z177 l177)).map PV.pn = towPl.map PV.pn := rfl
 have hpLi : ([⟨i177, d177, [4, -1, -1]⟩] : List SV).map (·.xs) = ilL.map (·.xs) := rfl
 have hbgi : PoBig towN (towPV y177 k177 z177 l177) [⟨i177, d177, [4, -1, -1]⟩] := post_big (nd := towN) hppi hpLi ilL_big
 have hppm : ((towPV y178 k178 z178 l178)).map PV.pn = towPl.map PV.pn := rfl
 have hpLm : ((List.replicate 5 sv0) : List SV).map (·.xs) = maL.map (·.xs) := rfl
 have hbgm : PoBig towN (towPV y178 k178 z178 l178) (List.replicate 5 sv0) := post_big (nd := towN) hppm hpLm maL_big
 have hppz : ((n2PV y179 k179 z179 l179)).map PV.pn = n2Pl.map PV.pn := rfl
 have hpLz : ([⟨i179, d179, [2, -1, -1]⟩] : List SV).map (·.xs) = towL.map (·.xs) := rfl
 have hbgz : PoBig towN (n2PV y179 k179 z179 l179) [⟨i179, d179, [2, -1, -1]⟩] := post_big (nd := towN) hppz hpLz n2Pl_big
 refine r_region' (l_q (q_load_agg (n := 3) Try.isAgg29 Try.sizeOf29 rfl ((hb85.cells' (cs' := [_, _, _]) 0 3 rfl)) rfl rfl) (l_o (o_call Try.call4 rfl ((by have h := best_ret na79 nc79 towN pa79 pc79 (n2PV y179 k179 z179 l179) ca79 cc79 [⟨i179, d179, [2, -1, -1]⟩] _ ⟨(Row.of_owns hto79.nd_), (Row.of_owns hto79.pl_), (rowsP3 (Row.of_owns hto79.y_) (Row.of_owns hto79.y_) (Row.of_owns hto79.z_)), (rowC1 hto79.ca_), (rowsI1 hto79.in_)⟩ hbgz.1 hbgz.2.1 hbgz.2.2.1 hbgz.2.2.2.1; rw [best_pn hppz hpLz, none_best] at h; exact h)) rfl ?_)))
 rintro _ w131 ⟨ra131, rc131, R131, rfl, hRo131, hRs131, hRm131, hE131⟩
 replace hB := below_ext hB hE131 hsz
 replace hto74 := hto74.ext hE131
 replace hszL74 := Nat.le_trans hszL74 hE131.size
 replace hto75 := hto75.ext hE131
 replace hszL75 := Nat.le_trans hszL75 hE131.size
 replace hto76 := hto76.ext hE131
 replace hszL76 := Nat.le_trans hszL76 hE131.size
 replace hto77 := hto77.ext hE131
 replace hszL77 := Nat.le_trans hszL77 hE131.size
 replace hto78 := hto78.ext hE131
 replace hszL78 := Nat.le_trans hszL78 hE131.size
 replace hto79 := hto79.ext hE131
 replace hszL79 := Nat.le_trans hszL79 hE131.size
 replace hb80 := hb80.ext hE131
 replace hb81 := hb81.ext hE131
 replace hb82 := hb82.ext hE131
 replace hb83 := hb83.ext hE131
 replace hb84 := hb84.ext hE131
 replace hb85 := hb85.ext hE131
 replace ho95 := own_ext ho95 hE131
 replace ho104 := own_ext ho104 hE131
 replace hgo112 := hgo112.ext hE131
 replace hszL112 := Nat.le_trans hszL112 hE131.size
 replace hgo113 := hgo113.ext hE131
 replace hszL113 := Nat.le_trans hszL113 hE131.size
 replace hszL114 := Nat.le_trans hszL114 hE131.size
 replace hgo115 := hgo115.ext hE131
 replace hszL115 := Nat.le_trans hszL115 hE131.size
 replace hb116 := hb116.ext hE131
 replace hb117 := hb117.ext hE131
 replace hb118 := hb118.ext hE131
 replace hb119 := hb119.ext hE131
 replace ho127 := own_ext ho127 hE131
 replace hsz := Nat.le_trans hsz hE131.size
 have hR131 := Row.of_owns hRo131
 have hRr131 := hRs131.rows
 refine l_q (q_move (v := .tuple _) rfl rfl) (l_q (q_extract (vs := [_, _, _]) (v := .slice _ _ _) rfl rfl rfl) (l_q (q_extract (vs := [_, _, _]) (v := .int _ _) rfl rfl rfl) (l_q (q_extract (vs := [_, _, _]) (v := .int _ _) rfl rfl rfl) (l_q (qai rfl rfl) (l_nil (r_seq (r_region' (l_q (q_load_agg (n := 3) Try.isAgg29 Try.sizeOf29 rfl ((hb85.cells' (cs' := [_, _, _]) 0 3 rfl)) rfl rfl) (l_o (o_call Try.call11 rfl ((by have h := enough_ret na79 nc79 towN pa79 pc79 (n2PV y179 k179 z179 l179) ca79 cc79 [⟨i179, d179, [2, -1, -1]⟩] _ ⟨(Row.of_owns hto79.nd_), (Row.of_owns hto79.pl_), (rowsP3 (Row.of_owns hto79.y_) (Row.of_owns hto79.y_) (Row.of_owns hto79.z_)), (rowC1 hto79.ca_), (rowsI1 hto79.in_)⟩ hbgz.1 hbgz.2.1 hbgz.2.2.1 hbgz.2.2.2.1; rw [enough_pn hppz hpLz, none_enough] at h; exact h)) rfl ?_))))))))))
 rintro _ w132 ⟨ea132, ec132, rfl, he132, hE132⟩
 replace hB := below_ext hB hE132 hsz
 replace hto74 := hto74.ext hE132
 replace hszL74 := Nat.le_trans hszL74 hE132.size
 replace hto75 := hto75.ext hE132
 replace hszL75 := Nat.le_trans hszL75 hE132.size
 replace hto76 := hto76.ext hE132
 replace hszL76 := Nat.le_trans hszL76 hE132.size
 replace hto77 := hto77.ext hE132
 replace hszL77 := Nat.le_trans hszL77 hE132.size
 replace hto78 := hto78.ext hE132
 replace hszL78 := Nat.le_trans hszL78 hE132.size
 replace hszL79 := Nat.le_trans hszL79 hE132.size
 replace hb80 := hb80.ext hE132
 replace hb81 := hb81.ext hE132
 replace hb82 := hb82.ext hE132
 replace hb83 := hb83.ext hE132
 replace hb84 := hb84.ext hE132
 replace hb85 := hb85.ext hE132
 replace ho95 := own_ext ho95 hE132
 replace ho104 := own_ext ho104 hE132
 replace hgo112 := hgo112.ext hE132
 replace hszL112 := Nat.le_trans hszL112 hE132.size
 replace hgo113 := hgo113.ext hE132
 replace hszL113 := Nat.le_trans hszL113 hE132.size
 replace hszL114 := Nat.le_trans hszL114 hE132.size
 replace hgo115 := hgo115.ext hE132
 replace hszL115 := Nat.le_trans hszL115 hE132.size
 replace hb116 := hb116.ext hE132
 replace hb117 := hb117.ext hE132
 replace hb118 := hb118.ext hE132
 replace hb119 := hb119.ext hE132
 replace ho127 := own_ext ho127 hE132
 replace hsz := Nat.le_trans hsz hE132.size
 refine l_q (q_move (v := .tuple _) rfl rfl) (l_q (q_extract (vs := [_, _]) (v := .slice _ _ _) rfl rfl rfl) (l_q (q_extract (vs := [_, _]) (v := .int _ _) rfl rfl rfl) (l_q (qai rfl rfl) (l_nil (r_forget [(3, .int _ _), (5, .int _ _), (8, .pointer _), (9, .pointer _), (10, .pointer _), (11, .pointer _), (12, .pointer _), (14, .pointer _), (15, .pointer _), (16, .pointer _), (17, .pointer _)] ⟨rfl, rfl, rfl, rfl, rfl, rfl, rfl, rfl, rfl, rfl, rfl, trivial⟩ (fun e133 => (r_seq (r_region' (l_o (o_call Try.call5 rfl (tower_ret none 0 [] _ (Row.nil _ _ _ _) (RowsI.nil _) (by decide) (by simp)) rfl ?_))))))))))
 rintro _ w134 ⟨pna134, pnc134, ppa134, ppc134, ppl134, pca134, pcc134, pL134, rfl, hpo134, hpp134, hpL134, hE134⟩
 replace hB := below_ext hB hE134 hsz
 replace hto74 := hto74.ext hE134
 replace hszL74 := Nat.le_trans hszL74 hE134.size
 replace hto75 := hto75.ext hE134
 replace hszL75 := Nat.le_trans hszL75 hE134.size
 replace hto76 := hto76.ext hE134
 replace hszL76 := Nat.le_trans hszL76 hE134.size
 replace hto77 := hto77.ext hE134
 replace hszL77 := Nat.le_trans hszL77 hE134.size
 replace hto78 := hto78.ext hE134
 replace hszL78 := Nat.le_trans hszL78 hE134.size
 replace hszL79 := Nat.le_trans hszL79 hE134.size
 replace hb80 := hb80.ext hE134
 replace hb81 := hb81.ext hE134
 replace hb82 := hb82.ext hE134
 replace hb83 := hb83.ext hE134
 replace hb84 := hb84.ext hE134
 replace hb85 := hb85.ext hE134
 replace ho95 := own_ext ho95 hE134
 replace ho104 := own_ext ho104 hE134
 replace hgo112 := hgo112.ext hE134
 replace hszL112 := Nat.le_trans hszL112 hE134.size
 replace hgo113 := hgo113.ext hE134
 replace hszL113 := Nat.le_trans hszL113 hE134.size
 replace hszL114 := Nat.le_trans hszL114 hE134.size
 replace hgo115 := hgo115.ext hE134
 replace hszL115 := Nat.le_trans hszL115 hE134.size
 replace hb116 := hb116.ext hE134
 replace hb117 := hb117.ext hE134
 replace hb118 := hb118.ext hE134
 replace hb119 := hb119.ext hE134
 replace ho127 := own_ext ho127 hE134
 replace hsz := Nat.le_trans hsz hE134.size
 replace hpL134 : pL134.map (·.xs) = towL.map (·.xs) := hpL134
 have hbg134 := post_big hpp134 hpL134 towL_big
 refine l_o (o_buildSlice (el := 3) (cs := [vint 0]) Try.underlying26 el3 (by decide) (by kernel_rfl) rfl (by decide) rfl ?_)
 intro b135 w135 hzl135 hzr135 _ hb135 hE135 ho135
 have hszq135 : w.heap.size ≤ w134.heap.size := hsz
 have hne_b80_b135 : b80 ≠ b135 := by have := hb80.lt; omega
 have hne_b81_b135 : b81 ≠ b135 := by have := hb81.lt; omega
 have hne_b82_b135 : b82 ≠ b135 := by have := hb82.lt; omega
 have hne_b83_b135 : b83 ≠ b135 := by have := hb83.lt; omega
 have hne_b84_b135 : b84 ≠ b135 := by have := hb84.lt; omega
 have hne_b85_b135 : b85 ≠ b135 := by have := hb85.lt; omega
 have hne_b116_b135 : b116 ≠ b135 := by have := hb116.lt; omega
 have hne_b117_b135 : b117 ≠ b135 := by have := hb117.lt; omega
 have hne_b118_b135 : b118 ≠ b135 := by have := hb118.lt; omega
 have hne_b119_b135 : b119 ≠ b135 := by have := hb119.lt; omega
 have hbs_b135 : w.heap.size ≤ b135 := Nat.le_trans hsz hzl135
 replace hB := below_ext hB hE135 hsz
 replace hto74 := hto74.ext hE135
 replace hszL74 := Nat.le_trans hszL74 hE135.size
 replace hto75 := hto75.ext hE135
 replace hszL75 := Nat.le_trans hszL75 hE135.size
 replace hto76 := hto76.ext hE135
 replace hszL76 := Nat.le_trans hszL76 hE135.size
 replace hto77 := hto77.ext hE135
 replace hszL77 := Nat.le_trans hszL77 hE135.size
 replace hto78 := hto78.ext hE135
 replace hszL78 := Nat.le_trans hszL78 hE135.size
 replace hszL79 := Nat.le_trans hszL79 hE135.size
 replace hb80 := hb80.ext hE135
 replace hb81 := hb81.ext hE135
 replace hb82 := hb82.ext hE135
 replace hb83 := hb83.ext hE135
 replace hb84 := hb84.ext hE135
 replace hb85 := hb85.ext hE135
 replace ho95 := own_ext ho95 hE135
 replace ho104 := own_ext ho104 hE135
 replace hgo112 := hgo112.ext hE135
 replace hszL112 := Nat.le_trans hszL112 hE135.size
 replace hgo113 := hgo113.ext hE135
 replace hszL113 := Nat.le_trans hszL113 hE135.size
 replace hszL114 := Nat.le_trans hszL114 hE135.size
 replace hgo115 := hgo115.ext hE135
 replace hszL115 := Nat.le_trans hszL115 hE135.size
 replace hb116 := hb116.ext hE135
 replace hb117 := hb117.ext hE135
 replace hb118 := hb118.ext hE135
 replace hb119 := hb119.ext hE135
 replace ho127 := own_ext ho127 hE135
 replace hpo134 := hpo134.ext hE135
 replace hsz := Nat.le_trans hsz hE135.size
 refine l_o (o_buildSlice (el := 3) (cs := [vint 3]) Try.underlying26 el3 (by decide) (by kernel_rfl) rfl (by decide) rfl ?_)
 intro b136 w136 hzl136 hzr136 _ hb136 hE136 ho136
 have hszq136 : w.heap.size ≤ w135.heap.size := hsz
 have hne_b80_b136 : b80 ≠ b136 := by have := hb80.lt; omega
 have hne_b81_b136 : b81 ≠ b136 := by have := hb81.lt; omega
 have hne_b82_b136 : b82 ≠ b136 := by have := hb82.lt; omega
 have hne_b83_b136 : b83 ≠ b136 := by have := hb83.lt; omega
 have hne_b84_b136 : b84 ≠ b136 := by have := hb84.lt; omega
 have hne_b85_b136 : b85 ≠ b136 := by have := hb85.lt; omega
 have hne_b116_b136 : b116 ≠ b136 := by have := hb116.lt; omega
 have hne_b117_b136 : b117 ≠ b136 := by have := hb117.lt; omega
 have hne_b118_b136 : b118 ≠ b136 := by have := hb118.lt; omega
 have hne_b119_b136 : b119 ≠ b136 := by have := hb119.lt; omega
 have hbs_b136 : w.heap.size ≤ b136 := Nat.le_trans hsz hzl136
 replace hB := below_ext hB hE136 hsz
 replace hto74 := hto74.ext hE136
 replace hszL74 := Nat.le_trans hszL74 hE136.size
 replace hto75 := hto75.ext hE136
 replace hszL75 := Nat.le_trans hszL75 hE136.size
 replace hto76 := hto76.ext hE136
 replace hszL76 := Nat.le_trans hszL76 hE136.size
 replace hto77 := hto77.ext hE136
 replace hszL77 := Nat.le_trans hszL77 hE136.size
 replace hto78 := hto78.ext hE136
 replace hszL78 := Nat.le_trans hszL78 hE136.size
 replace hszL79 := Nat.le_trans hszL79 hE136.size
 replace hb80 := hb80.ext hE136
 replace hb81 := hb81.ext hE136
 replace hb82 := hb82.ext hE136
 replace hb83 := hb83.ext hE136
 replace hb84 := hb84.ext hE136
 replace hb85 := hb85.ext hE136
 replace ho95 := own_ext ho95 hE136
 replace ho104 := own_ext ho104 hE136
 replace hgo112 := hgo112.ext hE136
 replace hszL112 := Nat.le_trans hszL112 hE136.size
 replace hgo113 := hgo113.ext hE136
 replace hszL113 := Nat.le_trans hszL113 hE136.size
 replace hszL114 := Nat.le_trans hszL114 hE136.size
 replace hgo115 := hgo115.ext hE136
 replace hszL115 := Nat.le_trans hszL115 hE136.size
 replace hb116 := hb116.ext hE136
 replace hb117 := hb117.ext hE136
 replace hb118 := hb118.ext hE136
 replace hb119 := hb119.ext hE136
 replace ho127 := own_ext ho127 hE136
 replace hpo134 := hpo134.ext hE136
 replace ho135 := own_ext ho135 hE136
 replace hsz := Nat.le_trans hsz hE136.size
 refine l_o (o_buildSlice (el := 3) (cs := [vint 2]) Try.underlying26 el3 (by decide) (by kernel_rfl) rfl (by decide) rfl ?_)
 intro b137 w137 hzl137 hzr137 _ hb137 hE137 ho137
 have hszq137 : w.heap.size ≤ w136.heap.size := hsz
 have hne_b80_b137 : b80 ≠ b137 := by have := hb80.lt; omega
 have hne_b81_b137 : b81 ≠ b137 := by have := hb81.lt; omega
 have hne_b82_b137 : b82 ≠ b137 := by have := hb82.lt; omega
 have hne_b83_b137 : b83 ≠ b137 := by have := hb83.lt; omega
 have hne_b84_b137 : b84 ≠ b137 := by have := hb84.lt; omega
 have hne_b85_b137 : b85 ≠ b137 := by have := hb85.lt; omega
 have hne_b116_b137 : b116 ≠ b137 := by have := hb116.lt; omega
 have hne_b117_b137 : b117 ≠ b137 := by have := hb117.lt; omega
 have hne_b118_b137 : b118 ≠ b137 := by have := hb118.lt; omega
 have hne_b119_b137 : b119 ≠ b137 := by have := hb119.lt; omega
 have hbs_b137 : w.heap.size ≤ b137 := Nat.le_trans hsz hzl137
 replace hB := below_ext hB hE137 hsz
 replace hto74 := hto74.ext hE137
 replace hszL74 := Nat.le_trans hszL74 hE137.size
 replace hto75 := hto75.ext hE137
 replace hszL75 := Nat.le_trans hszL75 hE137.size
 replace hto76 := hto76.ext hE137
 replace hszL76 := Nat.le_trans hszL76 hE137.size
 replace hto77 := hto77.ext hE137
 replace hszL77 := Nat.le_trans hszL77 hE137.size
 replace hto78 := hto78.ext hE137
 replace hszL78 := Nat.le_trans hszL78 hE137.size
 replace hszL79 := Nat.le_trans hszL79 hE137.size
 replace hb80 := hb80.ext hE137
 replace hb81 := hb81.ext hE137
 replace hb82 := hb82.ext hE137
 replace hb83 := hb83.ext hE137
 replace hb84 := hb84.ext hE137
 replace hb85 := hb85.ext hE137
 replace ho95 := own_ext ho95 hE137
 replace ho104 := own_ext ho104 hE137
 replace hgo112 := hgo112.ext hE137
 replace hszL112 := Nat.le_trans hszL112 hE137.size
 replace hgo113 := hgo113.ext hE137
 replace hszL113 := Nat.le_trans hszL113 hE137.size
 replace hszL114 := Nat.le_trans hszL114 hE137.size
 replace hgo115 := hgo115.ext hE137
 replace hszL115 := Nat.le_trans hszL115 hE137.size
 replace hb116 := hb116.ext hE137
 replace hb117 := hb117.ext hE137
 replace hb118 := hb118.ext hE137
 replace hb119 := hb119.ext hE137
 replace ho127 := own_ext ho127 hE137
 replace hpo134 := hpo134.ext hE137
 replace ho135 := own_ext ho135 hE137
 replace ho136 := own_ext ho136 hE137
 replace hsz := Nat.le_trans hsz hE137.size
 refine l_o (o_buildSlice (el := 3) (cs := [vint 1]) Try.underlying26 el3 (by decide) (by kernel_rfl) rfl (by decide) rfl ?_)
 intro b138 w138 hzl138 hzr138 _ hb138 hE138 ho138
 have hszq138 : w.heap.size ≤ w137.heap.size := hsz
 have hne_b80_b138 : b80 ≠ b138 := by have := hb80.lt; omega
 have hne_b81_b138 : b81 ≠ b138 := by have := hb81.lt; omega
 have hne_b82_b138 : b82 ≠ b138 := by have := hb82.lt; omega
 have hne_b83_b138 : b83 ≠ b138 := by have := hb83.lt; omega
 have hne_b84_b138 : b84 ≠ b138 := by have := hb84.lt; omega
 have hne_b85_b138 : b85 ≠ b138 := by have := hb85.lt; omega
 have hne_b116_b138 : b116 ≠ b138 := by have := hb116.lt; omega
 have hne_b117_b138 : b117 ≠ b138 := by have := hb117.lt; omega
 have hne_b118_b138 : b118 ≠ b138 := by have := hb118.lt; omega
 have hne_b119_b138 : b119 ≠ b138 := by have := hb119.lt; omega
 have hbs_b138 : w.heap.size ≤ b138 := Nat.le_trans hsz hzl138
 replace hB := below_ext hB hE138 hsz
 replace hto74 := hto74.ext hE138
 replace hszL74 := Nat.le_trans hszL74 hE138.size
 replace hto75 := hto75.ext hE138
 replace hszL75 := Nat.le_trans hszL75 hE138.size
 replace hto76 := hto76.ext hE138
 replace hszL76 := Nat.le_trans hszL76 hE138.size
 replace hto77 := hto77.ext hE138
 replace hszL77 := Nat.le_trans hszL77 hE138.size
 replace hto78 := hto78.ext hE138
 replace hszL78 := Nat.le_trans hszL78 hE138.size
 replace hszL79 := Nat.le_trans hszL79 hE138.size
 replace hb80 := hb80.ext hE138
 replace hb81 := hb81.ext hE138
 replace hb82 := hb82.ext hE138
 replace hb83 := hb83.ext hE138
 replace hb84 := hb84.ext hE138
 replace hb85 := hb85.ext hE138
 replace ho95 := own_ext ho95 hE138
 replace ho104 := own_ext ho104 hE138
 replace hgo112 := hgo112.ext hE138
 replace hszL112 := Nat.le_trans hszL112 hE138.size
 replace hgo113 := hgo113.ext hE138
 replace hszL113 := Nat.le_trans hszL113 hE138.size
 replace hszL114 := Nat.le_trans hszL114 hE138.size
 replace hgo115 := hgo115.ext hE138
 replace hszL115 := Nat.le_trans hszL115 hE138.size
 replace hb116 := hb116.ext hE138
 replace hb117 := hb117.ext hE138
 replace hb118 := hb118.ext hE138
 replace hb119 := hb119.ext hE138
 replace ho127 := own_ext ho127 hE138
 replace hpo134 := hpo134.ext hE138
 replace ho135 := own_ext ho135 hE138
 replace ho136 := own_ext ho136 hE138
 replace ho137 := own_ext ho137 hE138
 replace hsz := Nat.le_trans hsz hE138.size
 refine l_o (o_buildSlice (el := 26) (cs := [.slice (some ⟨b135, 0, none⟩) 1 1, .slice (some ⟨b136, 0, none⟩) 1 1, .slice (some ⟨b137, 0, none⟩) 1 1, .slice (some ⟨b138, 0, none⟩) 1 1]) Try.underlying22 el26 (by decide) (by kernel_rfl) rfl (by decide) rfl ?_)
 intro b139 w139 hzl139 hzr139 _ hb139 hE139 ho139
 have hszq139 : w.heap.size ≤ w138.heap.size := hsz
 have hne_b80_b139 : b80 ≠ b139 := by have := hb80.lt; omega
 have hne_b81_b139 : b81 ≠ b139 := by have := hb81.lt; omega
 have hne_b82_b139 : b82 ≠ b139 := by have := hb82.lt; omega
 have hne_b83_b139 : b83 ≠ b139 := by have := hb83.lt; omega
 have hne_b84_b139 : b84 ≠ b139 := by have := hb84.lt; omega
 have hne_b85_b139 : b85 ≠ b139 := by have := hb85.lt; omega
 have hne_b116_b139 : b116 ≠ b139 := by have := hb116.lt; omega
 have hne_b117_b139 : b117 ≠ b139 := by have := hb117.lt; omega
 have hne_b118_b139 : b118 ≠ b139 := by have := hb118.lt; omega
 have hne_b119_b139 : b119 ≠ b139 := by have := hb119.lt; omega
 have hbs_b139 : w.heap.size ≤ b139 := Nat.le_trans hsz hzl139
 replace hB := below_ext hB hE139 hsz
 replace hto74 := hto74.ext hE139
 replace hszL74 := Nat.le_trans hszL74 hE139.size
 replace hto75 := hto75.ext hE139
 replace hszL75 := Nat.le_trans hszL75 hE139.size
 replace hto76 := hto76.ext hE139
 replace hszL76 := Nat.le_trans hszL76 hE139.size
 replace hto77 := hto77.ext hE139
 replace hszL77 := Nat.le_trans hszL77 hE139.size
 replace hto78 := hto78.ext hE139
 replace hszL78 := Nat.le_trans hszL78 hE139.size
 replace hszL79 := Nat.le_trans hszL79 hE139.size
 replace hb80 := hb80.ext hE139
 replace hb81 := hb81.ext hE139
 replace hb82 := hb82.ext hE139
 replace hb83 := hb83.ext hE139
 replace hb84 := hb84.ext hE139
 replace hb85 := hb85.ext hE139
 replace ho95 := own_ext ho95 hE139
 replace ho104 := own_ext ho104 hE139
 replace hgo112 := hgo112.ext hE139
 replace hszL112 := Nat.le_trans hszL112 hE139.size
 replace hgo113 := hgo113.ext hE139
 replace hszL113 := Nat.le_trans hszL113 hE139.size
 replace hszL114 := Nat.le_trans hszL114 hE139.size
 replace hgo115 := hgo115.ext hE139
 replace hszL115 := Nat.le_trans hszL115 hE139.size
 replace hb116 := hb116.ext hE139
 replace hb117 := hb117.ext hE139
 replace hb118 := hb118.ext hE139
 replace hb119 := hb119.ext hE139
 replace ho127 := own_ext ho127 hE139
 replace hpo134 := hpo134.ext hE139
 replace ho135 := own_ext ho135 hE139
 replace ho136 := own_ext ho136 hE139
 replace ho137 := own_ext ho137 hE139
 replace ho138 := own_ext ho138 hE139
 replace hsz := Nat.le_trans hsz hE139.size
 have hos139 : OwnsI w139 w.heap.size 3 ([⟨some ⟨b135, 0, none⟩, 1, [0]⟩, ⟨some ⟨b136, 0, none⟩, 1, [3]⟩, ⟨some ⟨b137, 0, none⟩, 1, [2]⟩, ⟨some ⟨b138, 0, none⟩, 1, [1]⟩] : List SV) := OwnsI.snoc (OwnsI.snoc (OwnsI.snoc (OwnsI.snoc (OwnsI.nil _ _ _) (own_mono ho135 (by omega))) (own_mono ho136 (by omega))) (own_mono ho137 (by omega))) (own_mono ho138 (by omega))
 refine l_o (o_call Try.call8 rfl ((by have h := Rules_ret pna134 pnc134 towN ppa134 ppc134 ppl134 pca134 pcc134 pL134 _ _ ([⟨some ⟨b135, 0, none⟩, 1, [0]⟩, ⟨some ⟨b136, 0, none⟩, 1, [3]⟩, ⟨some ⟨b137, 0, none⟩, 1, [2]⟩, ⟨some ⟨b138, 0, none⟩, 1, [1]⟩] : List SV) _ hpo134 hbg134.1 hbg134.2.1 hbg134.2.2.1 hbg134.2.2.2.1 (Row.of_owns ho139) hos139.rows (by simp) (by simp); rw [rules_pn hpp134 hpL134, (show rulesR towN towPl towL (([⟨some ⟨b135, 0, none⟩, 1, [0]⟩, ⟨some ⟨b136, 0, none⟩, 1, [3]⟩, ⟨some ⟨b137, 0, none⟩, 1, [2]⟩, ⟨some ⟨b138, 0, none⟩, 1, [1]⟩] : List SV).map (·.xs)) = _ from tow_rules2)] at h; exact h)) rfl ?_)
 rintro _ w140 ⟨rfl, hE140⟩
 replace hB := below_ext hB hE140 hsz
 replace hto74 := hto74.ext hE140
 replace hszL74 := Nat.le_trans hszL74 hE140.size
 replace hto75 := hto75.ext hE140
 replace hszL75 := Nat.le_trans hszL75 hE140.size
 replace hto76 := hto76.ext hE140
 replace hszL76 := Nat.le_trans hszL76 hE140.size
 replace hto77 := hto77.ext hE140
 replace hszL77 := Nat.le_trans hszL77 hE140.size
 replace hto78 := hto78.ext hE140
 replace hszL78 := Nat.le_trans hszL78 hE140.size
 replace hszL79 := Nat.le_trans hszL79 hE140.size
 replace hb80 := hb80.ext hE140
 replace hb81 := hb81.ext hE140
 replace hb82 := hb82.ext hE140
 replace hb83 := hb83.ext hE140
 replace hb84 := hb84.ext hE140
 replace hb85 := hb85.ext hE140
 replace ho95 := own_ext ho95 hE140
 replace ho104 := own_ext ho104 hE140
 replace hgo112 := hgo112.ext hE140
 replace hszL112 := Nat.le_trans hszL112 hE140.size
 replace hgo113 := hgo113.ext hE140
 replace hszL113 := Nat.le_trans hszL113 hE140.size
 replace hszL114 := Nat.le_trans hszL114 hE140.size
 replace hgo115 := hgo115.ext hE140
 replace hszL115 := Nat.le_trans hszL115 hE140.size
 replace hb116 := hb116.ext hE140
 replace hb117 := hb117.ext hE140
 replace hb118 := hb118.ext hE140
 replace hb119 := hb119.ext hE140
 replace ho127 := own_ext ho127 hE140
 replace hsz := Nat.le_trans hsz hE140.size
 refine l_q (q_move (v := .tuple _) rfl rfl) (l_q (q_extract (vs := [_, _]) (v := .bool _) rfl rfl rfl) (l_q (q_extract (vs := [_, _]) (v := .int _ _) rfl rfl rfl) (l_q (qai rfl rfl) (l_nil (r_forget [(3, .int _ _), (5, .int _ _), (7, .int _ _), (8, .pointer _), (9, .pointer _), (10, .pointer _), (11, .pointer _), (12, .pointer _), (14, .pointer _), (15, .pointer _), (16, .pointer _), (17, .pointer _)] ⟨rfl, rfl, rfl, rfl, rfl, rfl, rfl, rfl, rfl, rfl, rfl, rfl, trivial⟩ (fun e141 => (r_seq (r_region' (l_o (o_call Try.call7 rfl (glass_ret _) rfl ?_))))))))))
 rintro _ w142 ⟨ga142, gc142, rfl, hgl142, hE142⟩
 replace hB := below_ext hB hE142 hsz
 replace hto74 := hto74.ext hE142
 replace hszL74 := Nat.le_trans hszL74 hE142.size
 replace hto75 := hto75.ext hE142
 replace hszL75 := Nat.le_trans hszL75 hE142.size
 replace hto76 := hto76.ext hE142
 replace hszL76 := Nat.le_trans hszL76 hE142.size
 replace hto77 := hto77.ext hE142
 replace hszL77 := Nat.le_trans hszL77 hE142.size
 replace hto78 := hto78.ext hE142
 replace hszL78 := Nat.le_trans hszL78 hE142.size
 replace hszL79 := Nat.le_trans hszL79 hE142.size
 replace hb80 := hb80.ext hE142
 replace hb81 := hb81.ext hE142
 replace hb82 := hb82.ext hE142
 replace hb83 := hb83.ext hE142
 replace hb84 := hb84.ext hE142
 replace hb85 := hb85.ext hE142
 replace ho95 := own_ext ho95 hE142
 replace ho104 := own_ext ho104 hE142
 replace hgo112 := hgo112.ext hE142
 replace hszL112 := Nat.le_trans hszL112 hE142.size
 replace hgo113 := hgo113.ext hE142
 replace hszL113 := Nat.le_trans hszL113 hE142.size
 replace hszL114 := Nat.le_trans hszL114 hE142.size
 replace hgo115 := hgo115.ext hE142
 replace hszL115 := Nat.le_trans hszL115 hE142.size
 replace hb116 := hb116.ext hE142
 replace hb117 := hb117.ext hE142
 replace hb118 := hb118.ext hE142
 replace hb119 := hb119.ext hE142
 replace ho127 := own_ext ho127 hE142
 replace hsz := Nat.le_trans hsz hE142.size
 refine l_o (o_buildSlice (el := 3) (cs := [vint 4]) Try.underlying26 el3 (by decide) (by kernel_rfl) rfl (by decide) rfl ?_)
 intro b143 w143 hzl143 hzr143 _ hb143 hE143 ho143
 have hszq143 : w.heap.size ≤ w142.heap.size := hsz
 have hne_b80_b143 : b80 ≠ b143 := by have := hb80.lt; omega
 have hne_b81_b143 : b81 ≠ b143 := by have := hb81.lt; omega
 have hne_b82_b143 : b82 ≠ b143 := by have := hb82.lt; omega
 have hne_b83_b143 : b83 ≠ b143 := by have := hb83.lt; omega
 have hne_b84_b143 : b84 ≠ b143 := by have := hb84.lt; omega
 have hne_b85_b143 : b85 ≠ b143 := by have := hb85.lt; omega
 have hne_b116_b143 : b116 ≠ b143 := by have := hb116.lt; omega
 have hne_b117_b143 : b117 ≠ b143 := by have := hb117.lt; omega
 have hne_b118_b143 : b118 ≠ b143 := by have := hb118.lt; omega
 have hne_b119_b143 : b119 ≠ b143 := by have := hb119.lt; omega
 have hbs_b143 : w.heap.size ≤ b143 := Nat.le_trans hsz hzl143
 replace hB := below_ext hB hE143 hsz
 replace hto74 := hto74.ext hE143
 replace hszL74 := Nat.le_trans hszL74 hE143.size
 replace hto75 := hto75.ext hE143
 replace hszL75 := Nat.le_trans hszL75 hE143.size
 replace hto76 := hto76.ext hE143
 replace hszL76 := Nat.le_trans hszL76 hE143.size
 replace hto77 := hto77.ext hE143
 replace hszL77 := Nat.le_trans hszL77 hE143.size
 replace hto78 := hto78.ext hE143
 replace hszL78 := Nat.le_trans hszL78 hE143.size
 replace hszL79 := Nat.le_trans hszL79 hE143.size
 replace hb80 := hb80.ext hE143
 replace hb81 := hb81.ext hE143
 replace hb82 := hb82.ext hE143
 replace hb83 := hb83.ext hE143
 replace hb84 := hb84.ext hE143
 replace hb85 := hb85.ext hE143
 replace ho95 := own_ext ho95 hE143
 replace ho104 := own_ext ho104 hE143
 replace hgo112 := hgo112.ext hE143
 replace hszL112 := Nat.le_trans hszL112 hE143.size
 replace hgo113 := hgo113.ext hE143
 replace hszL113 := Nat.le_trans hszL113 hE143.size
 replace hszL114 := Nat.le_trans hszL114 hE143.size
 replace hgo115 := hgo115.ext hE143
 replace hszL115 := Nat.le_trans hszL115 hE143.size
 replace hb116 := hb116.ext hE143
 replace hb117 := hb117.ext hE143
 replace hb118 := hb118.ext hE143
 replace hb119 := hb119.ext hE143
 replace ho127 := own_ext ho127 hE143
 replace hgl142 := hgl142.ext hE143
 replace hsz := Nat.le_trans hsz hE143.size
 refine l_o (o_call Try.call6 rfl ((by have h := bright_ret 60 ga142 gc142 glassG (some ⟨b143, 0, none⟩) 1 [4] _ hgl142 (by decide) (Row.of_owns ho143) (by decide); rw [glass_bright4] at h; exact h)) rfl ?_)
 rintro _ w144 ⟨ba144, bc144, rfl, hbr144, hE144⟩
 replace hB := below_ext hB hE144 hsz
 replace hto74 := hto74.ext hE144
 replace hszL74 := Nat.le_trans hszL74 hE144.size
 replace hto75 := hto75.ext hE144
 replace hszL75 := Nat.le_trans hszL75 hE144.size
 replace hto76 := hto76.ext hE144
 replace hszL76 := Nat.le_trans hszL76 hE144.size
 replace hto77 := hto77.ext hE144
 replace hszL77 := Nat.le_trans hszL77 hE144.size
 replace hto78 := hto78.ext hE144
 replace hszL78 := Nat.le_trans hszL78 hE144.size
 replace hszL79 := Nat.le_trans hszL79 hE144.size
 replace hb80 := hb80.ext hE144
 replace hb81 := hb81.ext hE144
 replace hb82 := hb82.ext hE144
 replace hb83 := hb83.ext hE144
 replace hb84 := hb84.ext hE144
 replace hb85 := hb85.ext hE144
 replace ho95 := own_ext ho95 hE144
 replace ho104 := own_ext ho104 hE144
 replace hgo112 := hgo112.ext hE144
 replace hszL112 := Nat.le_trans hszL112 hE144.size
 replace hgo113 := hgo113.ext hE144
 replace hszL113 := Nat.le_trans hszL113 hE144.size
 replace hszL114 := Nat.le_trans hszL114 hE144.size
 replace hgo115 := hgo115.ext hE144
 replace hszL115 := Nat.le_trans hszL115 hE144.size
 replace hb116 := hb116.ext hE144
 replace hb117 := hb117.ext hE144
 replace hb118 := hb118.ext hE144
 replace hb119 := hb119.ext hE144
 replace ho127 := own_ext ho127 hE144
 replace hsz := Nat.le_trans hsz hE144.size
 refine l_q (q_move (v := .tuple _) rfl rfl) (l_q (q_extract (vs := [_, _]) (v := .slice _ _ _) rfl rfl rfl) (l_q (q_extract (vs := [_, _]) (v := .int _ _) rfl rfl rfl) (l_q (qas rfl rfl) (l_q (qai rfl rfl) (l_nil (r_seq (r_region' (l_o (o_call Try.call7 rfl (glass_ret _) rfl ?_)))))))))
 rintro _ w145 ⟨ga145, gc145, rfl, hgl145, hE145⟩
 replace hB := below_ext hB hE145 hsz
 replace hto74 := hto74.ext hE145
 replace hszL74 := Nat.le_trans hszL74 hE145.size
 replace hto75 := hto75.ext hE145
 replace hszL75 := Nat.le_trans hszL75 hE145.size
 replace hto76 := hto76.ext hE145
 replace hszL76 := Nat.le_trans hszL76 hE145.size
 replace hto77 := hto77.ext hE145
 replace hszL77 := Nat.le_trans hszL77 hE145.size
 replace hto78 := hto78.ext hE145
 replace hszL78 := Nat.le_trans hszL78 hE145.size
 replace hszL79 := Nat.le_trans hszL79 hE145.size
 replace hb80 := hb80.ext hE145
 replace hb81 := hb81.ext hE145
 replace hb82 := hb82.ext hE145
 replace hb83 := hb83.ext hE145
 replace hb84 := hb84.ext hE145
 replace hb85 := hb85.ext hE145
 replace ho95 := own_ext ho95 hE145
 replace ho104 := own_ext ho104 hE145
 replace hgo112 := hgo112.ext hE145
 replace hszL112 := Nat.le_trans hszL112 hE145.size
 replace hgo113 := hgo113.ext hE145
 replace hszL113 := Nat.le_trans hszL113 hE145.size
 replace hszL114 := Nat.le_trans hszL114 hE145.size
 replace hgo115 := hgo115.ext hE145
 replace hszL115 := Nat.le_trans hszL115 hE145.size
 replace hb116 := hb116.ext hE145
 replace hb117 := hb117.ext hE145
 replace hb118 := hb118.ext hE145
 replace hb119 := hb119.ext hE145
 replace ho127 := own_ext ho127 hE145
 replace hsz := Nat.le_trans hsz hE145.size
 refine l_o (o_buildSlice (el := 3) (cs := [vint 1, vint 1]) Try.underlying26 el3 (by decide) (by kernel_rfl) rfl (by decide) rfl ?_)
 intro b146 w146 hzl146 hzr146 _ hb146 hE146 ho146
 have hszq146 : w.heap.size ≤ w145.heap.size := hsz
 have hne_b80_b146 : b80 ≠ b146 := by have := hb80.lt; omega
 have hne_b81_b146 : b81 ≠ b146 := by have := hb81.lt; omega
 have hne_b82_b146 : b82 ≠ b146 := by have := hb82.lt; omega
 have hne_b83_b146 : b83 ≠ b146 := by have := hb83.lt; omega
 have hne_b84_b146 : b84 ≠ b146 := by have := hb84.lt; omega
 have hne_b85_b146 : b85 ≠ b146 := by have := hb85.lt; omega
 have hne_b116_b146 : b116 ≠ b146 := by have := hb116.lt; omega
 have hne_b117_b146 : b117 ≠ b146 := by have := hb117.lt; omega
 have hne_b118_b146 : b118 ≠ b146 := by have := hb118.lt; omega
 have hne_b119_b146 : b119 ≠ b146 := by have := hb119.lt; omega
 have hbs_b146 : w.heap.size ≤ b146 := Nat.le_trans hsz hzl146
 replace hB := below_ext hB hE146 hsz
 replace hto74 := hto74.ext hE146
 replace hszL74 := Nat.le_trans hszL74 hE146.size
 replace hto75 := hto75.ext hE146
 replace hszL75 := Nat.le_trans hszL75 hE146.size
 replace hto76 := hto76.ext hE146
 replace hszL76 := Nat.le_trans hszL76 hE146.size
 replace hto77 := hto77.ext hE146
 replace hszL77 := Nat.le_trans hszL77 hE146.size
 replace hto78 := hto78.ext hE146
 replace hszL78 := Nat.le_trans hszL78 hE146.size
 replace hszL79 := Nat.le_trans hszL79 hE146.size
 replace hb80 := hb80.ext hE146
 replace hb81 := hb81.ext hE146
 replace hb82 := hb82.ext hE146
 replace hb83 := hb83.ext hE146
 replace hb84 := hb84.ext hE146
 replace ho95 := own_ext ho95 hE146
 replace ho104 := own_ext ho104 hE146
 replace hgo112 := hgo112.ext hE146
 replace hszL112 := Nat.le_trans hszL112 hE146.size
 replace hgo113 := hgo113.ext hE146
 replace hszL113 := Nat.le_trans hszL113 hE146.size
 replace hszL114 := Nat.le_trans hszL114 hE146.size
 replace hgo115 := hgo115.ext hE146
 replace hszL115 := Nat.le_trans hszL115 hE146.size
 replace hb116 := hb116.ext hE146
 replace hb117 := hb117.ext hE146
 replace hb118 := hb118.ext hE146
 replace hb119 := hb119.ext hE146
 replace ho127 := own_ext ho127 hE146
 replace hgl145 := hgl145.ext hE146
 replace hsz := Nat.le_trans hsz hE146.size
 refine l_o (o_call Try.call6 rfl ((by have h := bright_ret 60 ga145 gc145 glassG (some ⟨b146, 0, none⟩) 2 [1, 1] _ hgl145 (by decide) (Row.of_owns ho146) (by decide); rw [glass_bright1] at h; exact h)) rfl ?_)
 rintro _ w147 ⟨ba147, bc147, rfl, hbr147, hE147⟩
 replace hB := below_ext hB hE147 hsz
 replace hto74 := hto74.ext hE147
 replace hszL74 := Nat.le_trans hszL74 hE147.size
 replace hto75 := hto75.ext hE147
 replace hszL75 := Nat.le_trans hszL75 hE147.size
 replace hto76 := hto76.ext hE147
 replace hszL76 := Nat.le_trans hszL76 hE147.size
 replace hto77 := hto77.ext hE147
 replace hszL77 := Nat.le_trans hszL77 hE147.size
 replace hto78 := hto78.ext hE147
 replace hszL78 := Nat.le_trans hszL78 hE147.size
 replace hszL79 := Nat.le_trans hszL79 hE147.size
 replace hb80 := hb80.ext hE147
 replace hb81 := hb81.ext hE147
 replace hb82 := hb82.ext hE147
 replace hb83 := hb83.ext hE147
 replace hb84 := hb84.ext hE147
 replace ho95 := own_ext ho95 hE147
 replace ho104 := own_ext ho104 hE147
 replace hgo112 := hgo112.ext hE147
 replace hszL112 := Nat.le_trans hszL112 hE147.size
 replace hgo113 := hgo113.ext hE147
 replace hszL113 := Nat.le_trans hszL113 hE147.size
 replace hszL114 := Nat.le_trans hszL114 hE147.size
 replace hgo115 := hgo115.ext hE147
 replace hszL115 := Nat.le_trans hszL115 hE147.size
 replace hb116 := hb116.ext hE147
 replace hb117 := hb117.ext hE147
 replace hb118 := hb118.ext hE147
 replace hb119 := hb119.ext hE147
 replace ho127 := own_ext ho127 hE147
 replace hsz := Nat.le_trans hsz hE147.size
 refine l_q (q_move (v := .tuple _) rfl rfl) (l_q (q_extract (vs := [_, _]) (v := .slice _ _ _) rfl rfl rfl) (l_q (q_extract (vs := [_, _]) (v := .int _ _) rfl rfl rfl) (l_q (qas rfl rfl) (l_q (qai rfl rfl) (l_nil (r_forget [(3, .int _ _), (5, .int _ _), (7, .int _ _), (8, .pointer _), (9, .pointer _), (10, .pointer _), (11, .pointer _), (12, .pointer _), (14, .pointer _), (15, .pointer _), (16, .pointer _), (17, .pointer _), (19, .int _ _), (21, .int _ _)] ⟨rfl, rfl, rfl, rfl, rfl, rfl, rfl, rfl, rfl, rfl, rfl, rfl, rfl, rfl, trivial⟩ (fun e148 => (r_seq (r_region' (l_q (q_load_agg (n := 2) Try.isAgg35 Try.sizeOf35 rfl ((hb116.cells' (cs' := [_, _]) 0 2 rfl)) rfl rfl) (l_o (o_call Try.call12 rfl ((by have h := polish_ret 101 ga112 gc112 glassG _ (Row.of_owns hgo112.row) (by decide); rw [floor_polish] at h; exact h)) rfl ?_))))))))))))
 rintro _ w149 ⟨la149, lc149, rfl, hpl149, hE149⟩
 replace hB := below_ext hB hE149 hsz
 replace hto74 := hto74.ext hE149
 replace hszL74 := Nat.le_trans hszL74 hE149.size
 replace hto75 := hto75.ext hE149
 replace hszL75 := Nat.le_trans hszL75 hE149.size
 replace hto76 := hto76.ext hE149
 replace hszL76 := Nat.le_trans hszL76 hE149.size
 replace hto77 := hto77.ext hE149
 replace hszL77 := Nat.le_trans hszL77 hE149.size
 replace hto78 := hto78.ext hE149
 replace hszL78 := Nat.le_trans hszL78 hE149.size
 replace hszL79 := Nat.le_trans hszL79 hE149.size
 replace hb80 := hb80.ext hE149
 replace hb81 := hb81.ext hE149
 replace hb82 := hb82.ext hE149
 replace hb83 := hb83.ext hE149
 replace hb84 := hb84.ext hE149
 replace ho95 := own_ext ho95 hE149
 replace ho104 := own_ext ho104 hE149
 replace hszL112 := Nat.le_trans hszL112 hE149.size
 replace hgo113 := hgo113.ext hE149
 replace hszL113 := Nat.le_trans hszL113 hE149.size
 replace hszL114 := Nat.le_trans hszL114 hE149.size
 replace hgo115 := hgo115.ext hE149
 replace hszL115 := Nat.le_trans hszL115 hE149.size
 replace hb117 := hb117.ext hE149
 replace hb118 := hb118.ext hE149
 replace hb119 := hb119.ext hE149
 replace ho127 := own_ext ho127 hE149
 replace hsz := Nat.le_trans hsz hE149.size
 refine l_q (q_move (v := .tuple _) rfl rfl) (l_q (q_extract (vs := [_, _]) (v := .slice _ _ _) rfl rfl rfl) (l_q (q_extract (vs := [_, _]) (v := .int _ _) rfl rfl rfl) (l_q (qas rfl rfl) (l_q (qai rfl rfl) (l_nil (r_seq (r_region' (l_q (q_load_agg (n := 2) Try.isAgg35 Try.sizeOf35 rfl ((hb117.cells' (cs' := [_, _]) 0 2 rfl)) rfl rfl) (l_o (o_call Try.call12 rfl ((by have h := polish_ret 60 ga113 gc113 glassL _ (Row.of_owns hgo113.row) (by decide); rw [loss_polish] at h; exact h)) rfl ?_))))))))))
 rintro _ w150 ⟨la150, lc150, rfl, hpl150, hE150⟩
 replace hB := below_ext hB hE150 hsz
 replace hto74 := hto74.ext hE150
 replace hszL74 := Nat.le_trans hszL74 hE150.size
 replace hto75 := hto75.ext hE150
 replace hszL75 := Nat.le_trans hszL75 hE150.size
 replace hto76 := hto76.ext hE150
 replace hszL76 := Nat.le_trans hszL76 hE150.size
 replace hto77 := hto77.ext hE150
 replace hszL77 := Nat.le_trans hszL77 hE150.size
 replace hto78 := hto78.ext hE150
 replace hszL78 := Nat.le_trans hszL78 hE150.size
 replace hszL79 := Nat.le_trans hszL79 hE150.size
 replace hb80 := hb80.ext hE150
 replace hb81 := hb81.ext hE150
 replace hb82 := hb82.ext hE150
 replace hb83 := hb83.ext hE150
 replace hb84 := hb84.ext hE150
 replace ho95 := own_ext ho95 hE150
 replace ho104 := own_ext ho104 hE150
 replace hszL112 := Nat.le_trans hszL112 hE150.size
 replace hszL113 := Nat.le_trans hszL113 hE150.size
 replace hszL114 := Nat.le_trans hszL114 hE150.size
 replace hgo115 := hgo115.ext hE150
 replace hszL115 := Nat.le_trans hszL115 hE150.size
 replace hb118 := hb118.ext hE150
 replace hb119 := hb119.ext hE150
 replace ho127 := own_ext ho127 hE150
 replace hsz := Nat.le_trans hsz hE150.size
 refine l_q (q_move (v := .tuple _) rfl rfl) (l_q (q_extract (vs := [_, _]) (v := .slice _ _ _) rfl rfl rfl) (l_q (q_extract (vs := [_, _]) (v := .int _ _) rfl rfl rfl) (l_q (qas rfl rfl) (l_q (qai rfl rfl) (l_nil (r_forget [(3, .int _ _), (5, .int _ _), (7, .int _ _), (8, .pointer _), (9, .pointer _), (10, .pointer _), (11, .pointer _), (12, .pointer _), (16, .pointer _), (17, .pointer _), (19, .int _ _), (21, .int _ _), (23, .int _ _), (25, .int _ _)] ⟨rfl, rfl, rfl, rfl, rfl, rfl, rfl, rfl, rfl, rfl, rfl, rfl, rfl, rfl, trivial⟩ (fun e151 => (r_seq (r_region' (l_q (q_load_agg (n := 2) Try.isAgg35 Try.sizeOf35 rfl ((hb118.cells' (cs' := [_, _]) 0 2 rfl)) rfl rfl) (l_o (o_call Try.call12 rfl ((by have h := polish_ret 60 (some ⟨b127, 0, none⟩) 9 glass9 _ (Row.of_owns ho127) (by decide); rw [long_polish] at h; exact h)) rfl ?_))))))))))))
 rintro _ w152 ⟨la152, lc152, rfl, hpl152, hE152⟩
 replace hB := below_ext hB hE152 hsz
 replace hto74 := hto74.ext hE152
 replace hszL74 := Nat.le_trans hszL74 hE152.size
 replace hto75 := hto75.ext hE152
 replace hszL75 := Nat.le_trans hszL75 hE152.size
 replace hto76 := hto76.ext hE152
 replace hszL76 := Nat.le_trans hszL76 hE152.size
 replace hto77 := hto77.ext hE152
 replace hszL77 := Nat.le_trans hszL77 hE152.size
 replace hto78 := hto78.ext hE152
 replace hszL78 := Nat.le_trans hszL78 hE152.size
 replace hszL79 := Nat.le_trans hszL79 hE152.size
 replace hb80 := hb80.ext hE152
 replace hb81 := hb81.ext hE152
 replace hb82 := hb82.ext hE152
 replace hb83 := hb83.ext hE152
 replace hb84 := hb84.ext hE152
 replace ho95 := own_ext ho95 hE152
 replace ho104 := own_ext ho104 hE152
 replace hszL112 := Nat.le_trans hszL112 hE152.size
 replace hszL113 := Nat.le_trans hszL113 hE152.size
 replace hszL114 := Nat.le_trans hszL114 hE152.size
 replace hgo115 := hgo115.ext hE152
 replace hszL115 := Nat.le_trans hszL115 hE152.size
 replace hb119 := hb119.ext hE152
 replace hsz := Nat.le_trans hsz hE152.size
 refine l_q (q_move (v := .tuple _) rfl rfl) (l_q (q_extract (vs := [_, _]) (v := .slice _ _ _) rfl rfl rfl) (l_q (q_extract (vs := [_, _]) (v := .int _ _) rfl rfl rfl) (l_q (qas rfl rfl) (l_q (qai rfl rfl) (l_nil (r_seq (r_region' (l_q (q_load_agg (n := 2) Try.isAgg35 Try.sizeOf35 rfl ((hb119.cells' (cs' := [_, _]) 0 2 rfl)) rfl rfl) (l_o (o_call Try.call12 rfl ((by have h := polish_ret 76 ga115 gc115 glassG _ (Row.of_owns hgo115.row) (by decide); rw [dark_polish] at h; exact h)) rfl ?_))))))))))
 rintro _ w153 ⟨la153, lc153, rfl, hpl153, hE153⟩
 replace hB := below_ext hB hE153 hsz
 replace hto74 := hto74.ext hE153
 replace hszL74 := Nat.le_trans hszL74 hE153.size
 replace hto75 := hto75.ext hE153
 replace hszL75 := Nat.le_trans hszL75 hE153.size
 replace hto76 := hto76.ext hE153
 replace hszL76 := Nat.le_trans hszL76 hE153.size
 replace hto77 := hto77.ext hE153
 replace hszL77 := Nat.le_trans hszL77 hE153.size
 replace hto78 := hto78.ext hE153
 replace hszL78 := Nat.le_trans hszL78 hE153.size
 replace hszL79 := Nat.le_trans hszL79 hE153.size
 replace hb80 := hb80.ext hE153
 replace hb81 := hb81.ext hE153
 replace hb82 := hb82.ext hE153
 replace hb83 := hb83.ext hE153
 replace hb84 := hb84.ext hE153
 replace ho95 := own_ext ho95 hE153
 replace ho104 := own_ext ho104 hE153
 replace hszL112 := Nat.le_trans hszL112 hE153.size
 replace hszL113 := Nat.le_trans hszL113 hE153.size
 replace hszL114 := Nat.le_trans hszL114 hE153.size
 replace hszL115 := Nat.le_trans hszL115 hE153.size
 replace hsz := Nat.le_trans hsz hE153.size
 refine l_q (q_move (v := .tuple _) rfl rfl) (l_q (q_extract (vs := [_, _]) (v := .slice _ _ _) rfl rfl rfl) (l_q (q_extract (vs := [_, _]) (v := .int _ _) rfl rfl rfl) (l_q (qas rfl rfl) (l_q (qai rfl rfl) (l_nil (r_forget [(3, .int _ _), (5, .int _ _), (7, .int _ _), (8, .pointer _), (9, .pointer _), (10, .pointer _), (11, .pointer _), (12, .pointer _), (19, .int _ _), (21, .int _ _), (23, .int _ _), (25, .int _ _), (27, .int _ _), (29, .int _ _)] ⟨rfl, rfl, rfl, rfl, rfl, rfl, rfl, rfl, rfl, rfl, rfl, rfl, rfl, rfl, trivial⟩ (fun e154 => (r_seq (r_region' (l_q (qmi rfl rfl) (l_q (q_eql rfl rfl rfl) (l_q (qmb rfl rfl) ?_))))))))))))
 have hk155 : (decide (10 = 10)) = true := by decide
 refine l_part 254 rfl (fun _ => ?_) (fun hx => absurd (hk155.symm.trans hx) (by decide))
 refine l_q (qmi rfl rfl) (l_q (q_eql rfl rfl rfl) (l_q (q_pick_t (v := .bool _) rfl rfl rfl) (l_q (qmb rfl rfl) ?_)))
 have hk156 : (decide (10 = 10)) = true := by decide
 refine l_part 258 rfl (fun _ => ?_) (fun hx => absurd (hk156.symm.trans hx) (by decide))
 refine l_q (qmi rfl rfl) (l_q (q_eql rfl rfl rfl) (l_q (q_pick_t (v := .bool _) rfl rfl rfl) (l_q (qmb rfl rfl) ?_)))
 have hk157 : (decide (2 = 2)) = true := by decide
 refine l_part 262 rfl (fun _ => ?_) (fun hx => absurd (hk157.symm.trans hx) (by decide))
 refine l_q (qmi rfl rfl) (l_q (q_eql rfl rfl rfl) (l_q (q_pick_t (v := .bool _) rfl rfl rfl) (l_q (qmb rfl rfl) ?_)))
 have hk158 : (decide (2 = 2)) = true := by decide
 refine l_part 266 rfl (fun _ => ?_) (fun hx => absurd (hk158.symm.trans hx) (by decide))
 refine l_q (qmi rfl rfl) (l_q (q_eql rfl rfl rfl) (l_q (q_pick_t (v := .bool _) rfl rfl rfl) (l_q (qmb rfl rfl) ?_)))
 have hk159 : (decide (2 = 2)) = true := by decide
 refine l_part 270 rfl (fun _ => ?_) (fun hx => absurd (hk159.symm.trans hx) (by decide))
 refine l_q (qmi rfl rfl) (l_q (q_eql rfl rfl rfl) (l_q (q_pick_t (v := .bool _) rfl rfl rfl) (l_q (qmb rfl rfl) ?_)))
 have hk160 : (decide (1 = 1)) = true := by decide
 refine l_part 274 rfl (fun _ => ?_) (fun hx => absurd (hk160.symm.trans hx) (by decide))
 refine l_q (qmi rfl rfl) (l_q (q_eql rfl rfl rfl) (l_q (q_pick_t (v := .bool _) rfl rfl rfl) (l_q (qmb rfl rfl) ?_)))
 have hk161 : (decide (1 = 1)) = true := by decide
 refine l_part 278 rfl (fun _ => ?_) (fun hx => absurd (hk161.symm.trans hx) (by decide))
 refine l_q (qmi rfl rfl) (l_q (q_eql rfl rfl rfl) (l_q (q_pick_t (v := .bool _) rfl rfl rfl) (l_q (qmb rfl rfl) ?_)))
 have hk162 : (decide (3 = 3)) = true := by decide
 refine l_part 282 rfl (fun _ => ?_) (fun hx => absurd (hk162.symm.trans hx) (by decide))
 refine l_q (qmi rfl rfl) (l_q (q_eql rfl rfl rfl) (l_q (q_pick_t (v := .bool _) rfl rfl rfl) (l_q (qmb rfl rfl) ?_)))
 have hk163 : (decide (10 = 10)) = true := by decide
 refine l_part 286 rfl (fun _ => ?_) (fun hx => absurd (hk163.symm.trans hx) (by decide))
 refine l_q (q_load_agg (n := 3) Try.isAgg29 Try.sizeOf29 rfl ((hb80.cells' (cs' := [_, _, _]) 0 3 rfl)) rfl rfl) (l_o (o_call Try.call13 rfl ((by have h := checkPost_ret na74 nc74 neN pa74 pc74 (towPV y174 k174 z174 l174) ca74 cc74 [⟨i174, d174, [2, -1, -1]⟩] _ ⟨(Row.of_owns hto74.nd_), (Row.of_owns hto74.pl_), (rowsP3 (Row.of_owns hto74.y_) (Row.of_owns hto74.y_) (Row.of_owns hto74.z_)), (rowC1 hto74.ca_), (rowsI1 hto74.in_)⟩ hbgn.1 hbgn.2.1 hbgn.2.2.1 hbgn.2.2.2.1; rw [po_pn hppn hpLn, need_fault] at h; exact h)) rfl ?_))
 rintro _ w164 ⟨rfl, hE164⟩
 replace hB := below_ext hB hE164 hsz
 replace hszL74 := Nat.le_trans hszL74 hE164.size
 replace hto75 := hto75.ext hE164
 replace hszL75 := Nat.le_trans hszL75 hE164.size
 replace hto76 := hto76.ext hE164
 replace hszL76 := Nat.le_trans hszL76 hE164.size
 replace hto77 := hto77.ext hE164
 replace hszL77 := Nat.le_trans hszL77 hE164.size
 replace hto78 := hto78.ext hE164
 replace hszL78 := Nat.le_trans hszL78 hE164.size
 replace hszL79 := Nat.le_trans hszL79 hE164.size
 replace hb81 := hb81.ext hE164
 replace hb82 := hb82.ext hE164
 replace hb83 := hb83.ext hE164
 replace hb84 := hb84.ext hE164
 replace ho95 := own_ext ho95 hE164
 replace ho104 := own_ext ho104 hE164
 replace hszL112 := Nat.le_trans hszL112 hE164.size
 replace hszL113 := Nat.le_trans hszL113 hE164.size
 replace hszL114 := Nat.le_trans hszL114 hE164.size
 replace hszL115 := Nat.le_trans hszL115 hE164.size
 replace hsz := Nat.le_trans hsz hE164.size
 refine l_q (q_eql rfl rfl rfl) (l_q (q_pick_t (v := .bool _) rfl rfl rfl) (l_q (qmb rfl rfl) ?_))
 have hk165 : (decide (1 = 1)) = true := by decide
 refine l_part 291 rfl (fun _ => ?_) (fun hx => absurd (hk165.symm.trans hx) (by decide))
 refine l_q (q_load_agg (n := 3) Try.isAgg29 Try.sizeOf29 rfl ((hb81.cells' (cs' := [_, _, _]) 0 3 rfl)) rfl rfl) (l_o (o_call Try.call13 rfl ((by have h := checkPost_ret na75 nc75 towN pa75 pc75 (abPV b95 y175 k175 z175 l175) ca75 cc75 [⟨i175, d175, [2, -1, -1]⟩] _ ⟨(Row.of_owns hto75.nd_), (Row.of_owns hto75.pl_), (rowsP3 (Row.of_owns ho95) (Row.of_owns hto75.y_) (Row.of_owns hto75.z_)), (rowC1 hto75.ca_), (rowsI1 hto75.in_)⟩ hbga.1 hbga.2.1 hbga.2.2.1 hbga.2.2.2.1; rw [po_pn hppa hpLa, able_fault] at h; exact h)) rfl ?_))
 rintro _ w166 ⟨rfl, hE166⟩
 replace hB := below_ext hB hE166 hsz
 replace hszL74 := Nat.le_trans hszL74 hE166.size
 replace hszL75 := Nat.le_trans hszL75 hE166.size
 replace hto76 := hto76.ext hE166
 replace hszL76 := Nat.le_trans hszL76 hE166.size
 replace hto77 := hto77.ext hE166
 replace hszL77 := Nat.le_trans hszL77 hE166.size
 replace hto78 := hto78.ext hE166
 replace hszL78 := Nat.le_trans hszL78 hE166.size
 replace hszL79 := Nat.le_trans hszL79 hE166.size
 replace hb82 := hb82.ext hE166
 replace hb83 := hb83.ext hE166
 replace hb84 := hb84.ext hE166
 replace ho104 := own_ext ho104 hE166
 replace hszL112 := Nat.le_trans hszL112 hE166.size
 replace hszL113 := Nat.le_trans hszL113 hE166.size
 replace hszL114 := Nat.le_trans hszL114 hE166.size
 replace hszL115 := Nat.le_trans hszL115 hE166.size
 replace hsz := Nat.le_trans hsz hE166.size
 refine l_q (q_eql rfl rfl rfl) (l_q (q_pick_t (v := .bool _) rfl rfl rfl) (l_q (qmb rfl rfl) ?_))
 have hk167 : (decide (1 = 1)) = true := by decide
 refine l_part 296 rfl (fun _ => ?_) (fun hx => absurd (hk167.symm.trans hx) (by decide))
 refine l_q (q_load_agg (n := 3) Try.isAgg29 Try.sizeOf29 rfl ((hb82.cells' (cs' := [_, _, _]) 0 3 rfl)) rfl rfl) (l_o (o_call Try.call13 rfl ((by have h := checkPost_ret na76 nc76 towN pa76 pc76 (rePV y176 k176 z176 l176) ca76 cc76 [⟨i176, d176, [2, -1, -1]⟩] _ ⟨(Row.of_owns hto76.nd_), (Row.of_owns hto76.pl_), (rowsP3 (Row.of_owns hto76.y_) (Row.of_owns hto76.y_) (Row.of_owns hto76.z_)), (rowC1 hto76.ca_), (rowsI1 hto76.in_)⟩ hbgr.1 hbgr.2.1 hbgr.2.2.1 hbgr.2.2.2.1; rw [po_pn hppr hpLr, rest_fault] at h; exact h)) rfl ?_))
 rintro _ w168 ⟨rfl, hE168⟩
 replace hB := below_ext hB hE168 hsz
 replace hszL74 := Nat.le_trans hszL74 hE168.size
 replace hszL75 := Nat.le_trans hszL75 hE168.size
 replace hszL76 := Nat.le_trans hszL76 hE168.size
 replace hto77 := hto77.ext hE168
 replace hszL77 := Nat.le_trans hszL77 hE168.size
 replace hto78 := hto78.ext hE168
 replace hszL78 := Nat.le_trans hszL78 hE168.size
 replace hszL79 := Nat.le_trans hszL79 hE168.size
 replace hb83 := hb83.ext hE168
 replace hb84 := hb84.ext hE168
 replace ho104 := own_ext ho104 hE168
 replace hszL112 := Nat.le_trans hszL112 hE168.size
 replace hszL113 := Nat.le_trans hszL113 hE168.size
 replace hszL114 := Nat.le_trans hszL114 hE168.size
 replace hszL115 := Nat.le_trans hszL115 hE168.size
 replace hsz := Nat.le_trans hsz hE168.size
 refine l_q (q_eql rfl rfl rfl) (l_q (q_pick_t (v := .bool _) rfl rfl rfl) (l_q (qmb rfl rfl) ?_))
 have hk169 : (decide (1 = 1)) = true := by decide
 refine l_part 301 rfl (fun _ => ?_) (fun hx => absurd (hk169.symm.trans hx) (by decide))
 refine l_q (q_load_agg (n := 3) Try.isAgg29 Try.sizeOf29 rfl ((hb83.cells' (cs' := [_, _, _]) 0 3 rfl)) rfl rfl) (l_o (o_call Try.call13 rfl ((by have h := checkPost_ret na77 nc77 towN pa77 pc77 (towPV y177 k177 z177 l177) ca77 cc77 [⟨i177, d177, [4, -1, -1]⟩] _ ⟨(Row.of_owns hto77.nd_), (Row.of_owns hto77.pl_), (rowsP3 (Row.of_owns hto77.y_) (Row.of_owns hto77.y_) (Row.of_owns hto77.z_)), (rowC1 hto77.ca_), (rowsI1 hto77.in_)⟩ hbgi.1 hbgi.2.1 hbgi.2.2.1 hbgi.2.2.2.1; rw [po_pn hppi hpLi, ill_fault] at h; exact h)) rfl ?_))
 rintro _ w170 ⟨rfl, hE170⟩
 replace hB := below_ext hB hE170 hsz
 replace hszL74 := Nat.le_trans hszL74 hE170.size
 replace hszL75 := Nat.le_trans hszL75 hE170.size
 replace hszL76 := Nat.le_trans hszL76 hE170.size
 replace hszL77 := Nat.le_trans hszL77 hE170.size
 replace hto78 := hto78.ext hE170
 replace hszL78 := Nat.le_trans hszL78 hE170.size
 replace hszL79 := Nat.le_trans hszL79 hE170.size
 replace hb84 := hb84.ext hE170
 replace ho104 := own_ext ho104 hE170
 replace hszL112 := Nat.le_trans hszL112 hE170.size
 replace hszL113 := Nat.le_trans hszL113 hE170.size
 replace hszL114 := Nat.le_trans hszL114 hE170.size
 replace hszL115 := Nat.le_trans hszL115 hE170.size
 replace hsz := Nat.le_trans hsz hE170.size
 refine l_q (q_eql rfl rfl rfl) (l_q (q_pick_t (v := .bool _) rfl rfl rfl) (l_q (qmb rfl rfl) ?_))
 have hk171 : (decide (1 = 1)) = true := by decide
 refine l_part 306 rfl (fun _ => ?_) (fun hx => absurd (hk171.symm.trans hx) (by decide))
 refine l_q (q_load_agg (n := 3) Try.isAgg29 Try.sizeOf29 rfl ((hb84.cells' (cs' := [_, _, _]) 0 3 rfl)) rfl rfl) (l_o (o_call Try.call13 rfl ((by have h := checkPost_ret na78 nc78 towN pa78 pc78 (towPV y178 k178 z178 l178) (some ⟨b104, 0, none⟩) 5 (List.replicate 5 sv0) _ ⟨(Row.of_owns hto78.nd_), (Row.of_owns hto78.pl_), (rowsP3 (Row.of_owns hto78.y_) (Row.of_owns hto78.y_) (Row.of_owns hto78.z_)), (Row.of_owns ho104), rowsI_rep⟩ hbgm.1 hbgm.2.1 hbgm.2.2.1 hbgm.2.2.2.1; rw [po_pn hppm hpLm, many_fault] at h; exact h)) rfl ?_))
 rintro _ w172 ⟨rfl, hE172⟩
 replace hB := below_ext hB hE172 hsz
 replace hszL74 := Nat.le_trans hszL74 hE172.size
 replace hszL75 := Nat.le_trans hszL75 hE172.size
 replace hszL76 := Nat.le_trans hszL76 hE172.size
 replace hszL77 := Nat.le_trans hszL77 hE172.size
 replace hszL78 := Nat.le_trans hszL78 hE172.size
 replace hszL79 := Nat.le_trans hszL79 hE172.size
 replace hszL112 := Nat.le_trans hszL112 hE172.size
 replace hszL113 := Nat.le_trans hszL113 hE172.size
 replace hszL114 := Nat.le_trans hszL114 hE172.size
 replace hszL115 := Nat.le_trans hszL115 hE172.size
 replace hsz := Nat.le_trans hsz hE172.size
 refine l_q (q_eql rfl rfl rfl) (l_q (q_pick_t (v := .bool _) rfl rfl rfl) (l_q (qmb rfl rfl) ?_))
 have hk173 : (decide (3 = 3)) = true := by decide
 refine l_part 311 rfl (fun _ => ?_) (fun hx => absurd (hk173.symm.trans hx) (by decide))
 refine l_q (q_build (v := .agg ⟨[.slice none 0 0, .slice none 0 0, .slice none 0 0]⟩) (fun w => by kernel_rfl) rfl) (l_o (o_call Try.call13 rfl (zero_post _) rfl ?_))
 rintro _ w174 ⟨rfl, hE174⟩
 replace hB := below_ext hB hE174 hsz
 replace hszL74 := Nat.le_trans hszL74 hE174.size
 replace hszL75 := Nat.le_trans hszL75 hE174.size
 replace hszL76 := Nat.le_trans hszL76 hE174.size
 replace hszL77 := Nat.le_trans hszL77 hE174.size
 replace hszL78 := Nat.le_trans hszL78 hE174.size
 replace hszL79 := Nat.le_trans hszL79 hE174.size
 replace hszL112 := Nat.le_trans hszL112 hE174.size
 replace hszL113 := Nat.le_trans hszL113 hE174.size
 replace hszL114 := Nat.le_trans hszL114 hE174.size
 replace hszL115 := Nat.le_trans hszL115 hE174.size
 replace hsz := Nat.le_trans hsz hE174.size
 refine l_q (q_eql rfl rfl rfl) (l_q (q_pick_t (v := .bool _) rfl rfl rfl) (l_q (qmb rfl rfl) ?_))
 have hk175 : (decide (1 = 1)) = true := by decide
 refine l_part 316 rfl (fun _ => ?_) (fun hx => absurd (hk175.symm.trans hx) (by decide))
 refine l_o (o_call Try.call14 rfl (awake_ret _) rfl ?_)
 rintro _ w176 ⟨rfl, hE176⟩
 replace hB := below_ext hB hE176 hsz
 replace hszL74 := Nat.le_trans hszL74 hE176.size
 replace hszL75 := Nat.le_trans hszL75 hE176.size
 replace hszL76 := Nat.le_trans hszL76 hE176.size
 replace hszL77 := Nat.le_trans hszL77 hE176.size
 replace hszL78 := Nat.le_trans hszL78 hE176.size
 replace hszL79 := Nat.le_trans hszL79 hE176.size
 replace hszL112 := Nat.le_trans hszL112 hE176.size
 replace hszL113 := Nat.le_trans hszL113 hE176.size
 replace hszL114 := Nat.le_trans hszL114 hE176.size
 replace hszL115 := Nat.le_trans hszL115 hE176.size
 replace hsz := Nat.le_trans hsz hE176.size
 refine l_q (q_pick_t (v := .bool _) rfl rfl rfl) (l_q (qab rfl rfl) (l_nil (r_forget [(0, .bool _)] ⟨rfl, trivial⟩ (fun e177 => (r_ret_ (vs := [.bool _]) rfl Try.func3 rfl (.nil _) ⟨rfl, trivial⟩ ?_)))))
 exact ⟨rfl, Ext.of_below hB⟩
end Go.Proofs.Ytbikicakdkbcgaa
