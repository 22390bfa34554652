/- Contracts. -/
import Derived.Test.YtbikicakdkbcgabGreatA6
import Derived.Test.YtbikicakdkbcgabGreatRT
set_option linter.unusedVariables false
set_option linter.unusedSimpArgs false
namespace Go.Proofs.YtbikicakdkbcgabGreat
open Go Go.RowKit Go.Gv Go.Fl

/-- the sorted list, computed -/
def insL (x : List Int) : List (List Int) → List (List Int)
  | [] => [x]
  | y :: l => if ltL y x = true then y :: insL x l else x :: y :: l
theorem insL_perm (x : List Int) : ∀ l, (insL x l).Perm (x :: l)
  | [] => List.Perm.refl _
  | y :: l => by
    rw [insL]
    split
    · exact ((insL_perm x l).cons y).trans (List.Perm.swap x y l)
    · exact List.Perm.refl _
theorem insL_sorted (x : List Int) : ∀ l, l.Pairwise (fun x y => ltL y x = false) → (insL x l).Pairwise (fun x y => ltL y x = false)
  | [], _ => List.pairwise_singleton _ _
  | y :: l, h => by
    rw [insL]
    rw [List.pairwise_cons] at h
    split
    · rename_i hy
      rw [List.pairwise_cons]
      refine ⟨fun z hz => ?_, insL_sorted x l h.2⟩
      rcases List.mem_cons.1 ((insL_perm x l).mem_iff.1 hz) with rfl | hz
      · exact ltL_asymm hy
      · exact h.1 z hz
    · rename_i hy
      have hy : ltL y x = false := by simpa using hy
      rw [List.pairwise_cons, List.pairwise_cons]
      refine ⟨fun z hz => ?_, h⟩
      rcases List.mem_cons.1 hz with rfl | hz
      · exact hy
      · exact ltL_ntrans (h.1 z hz) hy
def isort (l : List (List Int)) : List (List Int) := l.foldr insL []
theorem isort_perm : ∀ l, (isort l).Perm l
  | [] => List.Perm.refl _
  | x :: l => (insL_perm x (isort l)).trans ((isort_perm l).cons x)
theorem isort_sorted : ∀ l, (isort l).Pairwise (fun x y => ltL y x = false)
  | [] => List.Pairwise.nil
  | x :: l => insL_sorted x _ (isort_sorted l)
theorem sortL_c (l : List (List Int)) : sortL l = isort l := sorted_uniq ((sortL_perm l).trans (isort_perm l).symm) (sortL_sorted l) (isort_sorted l)
def listsC (xs : List Int) : List (List Int) := isort ((List.range (2 ^ xs.length)).map (fun n => subK xs n xs.length))
theorem lists_c : listsL = listsC := funext fun xs => sortL_c _
def bestC (nd : List Int) (pl : List PV) (L : List SV) : List (List Int) × Int × Int :=
  if faultP (po nd pl L) = 0 then
    (if 1024 ≤ rfe nd pl (L.map (·.xs)) (listsC (upTo pl.length)) 0 stood0 then ([], 0, 10) else (rext nd pl (L.map (·.xs)) (listsC (upTo pl.length)) 0 stood0, rfe nd pl (L.map (·.xs)) (listsC (upTo pl.length)) 0 stood0, 0))
  else ([], 0, faultP (po nd pl L))
theorem best_c : bestR = bestC := by
  funext nd pl L
  unfold bestR bestC
  rw [lists_c]
/-! ### The example -/
abbrev manN : List NT := [⟨2, 1, 2, 1, 1⟩]
theorem man_ok : OkS 9 5 4 9 manN := by decide
theorem man_cans : CansP manN [0] := by decide
theorem man_ch : ch 9 5 4 9 manN [0] 0 4 = -4 := by decide +kernel
theorem man_fin {X : List Int} {lt e : Int} (he : e = (if ch 9 5 4 9 manN [0] 0 4 < 524288 then 0 else 10)) (hp : e = 0 → ∃ oil, LeastP 9 5 4 9 manN [0] X oil lt ∧ X.length = manN.length ∧ lt = - ch 9 5 4 9 manN [0] 0 4) : X = [2] ∧ lt = 4 ∧ e = 0 := by
  rw [man_ch] at he hp
  have he : e = 0 := he
  obtain ⟨oil, h1, h2, h3⟩ := hp he
  have h3 : lt = 4 := h3
  match X, h2 with
  | [x], _ =>
    obtain ⟨o, l, h4, _, _, h5⟩ := LeastP.inv (ys := []) h1
    have h6 := h4.zerol
    subst h6
    have h5 : lt = 0 + x * 2 := h5
    exact ⟨by rw [show x = 2 by omega], h3, he⟩
theorem man_trim (a1 a2 : Option Addr) (w : World) (h1 : Row w a1 1 1 5 [vint 2, vint 1, vint 2, vint 1, vint 1]) (h2 : Row w a2 1 1 1 [vint 0]) :
    Ret Tryz.prog 9 [.agg ⟨[vint 9, vint 5, vint 4, vint 9, .slice a1 1 1]⟩, .slice a2 1 1] w (fun v w' => ∃ ra rc, v = .tuple ⟨[.slice ra 1 rc, vint 4, vint 0]⟩ ∧ Row w' ra 1 rc 1 [vint 2] ∧ Ext w w') :=
  (trim_ret 9 5 4 9 a1 1 manN a2 1 [0] w h1 h2 man_ok man_cans).mono (fun v w' h => by
    obtain ⟨⟨ra, rc, X, lt, e, rfl, hX, he, hp⟩, hE⟩ := h
    obtain ⟨rfl, rfl, rfl⟩ := man_fin he hp
    exact ⟨ra, rc, rfl, hX, hE⟩)
def manPl : List PV := [⟨none, 0, [true], 0, 1⟩, ⟨none, 0, [true], 0, 1⟩]
theorem man_big : PoBig [2] manPl [] := ⟨by decide, by decide, by decide, by decide, by decide⟩
theorem man_best : bestR [2] manPl [] = ([[0, 1]], 2, 0) := by rw [best_c]; decide +kernel
theorem rowsP2 {w : World} {p q : PV} (h1 : Row w p.a p.ab.length p.c 1 (p.ab.map Value.bool)) (h2 : Row w q.a q.ab.length q.c 1 (q.ab.map Value.bool)) : RowsP w [p, q] := fun x hx => by
  simp only [List.mem_cons, List.not_mem_nil, or_false] at hx
  rcases hx with rfl | rfl <;> assumption

theorem rows1 {R : List SV} {l : List Int} (h : R.map (·.xs) = [l]) : R.length = 1 := by have := congrArg List.length h; rw [List.length_map] at this; exact this
theorem rows2 {R : List SV} {l : List Int} (h : R.map (·.xs) = [l]) : (R.getD 0 sv0).xs = l := by
  match R, h with
  | [s], h => exact (List.cons.inj h).1


theorem manned_ret (w : World) : Ret Tryz.prog 8 [] w (fun v w' => v = .bool true ∧ Ext w w') := by
 have hB := Below.refl w.heap.size w
 have hsz : w.heap.size ≤ w.heap.size := Nat.le_refl _
 refine ret_of_runs (args := []) Tryz.func8 rfl (Nat.le_of_ble_eq_true rfl) (by kernel_rfl) (r_seq (r_region' (l_q (qab rfl rfl) (l_nil (r_seq (r_region' (l_q (q_build (v := .agg ⟨[vint 4, vint 9]⟩) (fun w => by kernel_rfl) rfl) (l_q (q_build (v := .agg ⟨[vint 1, vint 1]⟩) (fun w => by kernel_rfl) rfl) (l_q (q_build (v := .agg ⟨[vint 2, vint 1, vint 2, vint 1, vint 1]⟩) (fun w => by kernel_rfl) rfl) (l_o (o_buildSlice (el := 75) (cs := [vint 2, vint 1, vint 2, vint 1, vint 1]) Tryz.underlying44 el75 (by decide) (by kernel_rfl) rfl (by decide) rfl ?_)))))))))))
 intro b1 w1 hzl1 hzr1 _ hb1 hE1 ho1
 have hszq1 : w.heap.size ≤ w.heap.size := hsz
 have hbs_b1 : w.heap.size ≤ b1 := Nat.le_trans hsz hzl1
 replace hB := below_ext hB hE1 hsz
 replace hsz := Nat.le_trans hsz hE1.size
 refine l_q (q_build (v := .agg ⟨[vint 9, vint 5, vint 4, vint 9, .slice (some ⟨b1, 0, none⟩) 1 1]⟩) (fun w => by kernel_rfl) rfl) (l_o (o_buildSlice (el := 3) (cs := [vint 0]) Tryz.underlying27 el3 (by decide) (by kernel_rfl) rfl (by decide) rfl ?_))
 intro b2 w2 hzl2 hzr2 _ hb2 hE2 ho2
 have hszq2 : w.heap.size ≤ w1.heap.size := hsz
 have hbs_b2 : w.heap.size ≤ b2 := Nat.le_trans hsz hzl2
 replace hB := below_ext hB hE2 hsz
 replace ho1 := own_ext ho1 hE2
 replace hsz := Nat.le_trans hsz hE2.size
 refine l_o (o_call Tryz.call9 rfl (man_trim (some ⟨b1, 0, none⟩) (some ⟨b2, 0, none⟩) _ (Row.of_owns ho1) (Row.of_owns ho2)) rfl ?_)
 rintro _ w3 ⟨ra3, rc3, rfl, hX3, hE3⟩
 replace hB := below_ext hB hE3 hsz
 replace hsz := Nat.le_trans hsz hE3.size
 refine l_q (q_move (v := .tuple _) rfl rfl) (l_q (q_extract (vs := [_, _, _]) (v := .slice _ _ _) rfl rfl rfl) (l_q (q_extract (vs := [_, _, _]) (v := .int _ _) rfl rfl rfl) (l_q (q_extract (vs := [_, _, _]) (v := .int _ _) rfl rfl rfl) (l_q (qas rfl rfl) (l_q (qai rfl rfl) (l_q (qai rfl rfl) (l_nil (r_forget [(1, .slice _ _ _), (2, .int _ _), (3, .int _ _)] ⟨rfl, rfl, rfl, trivial⟩ (fun e4 => (r_seq (r_region' (l_o (o_buildSlice (el := 3) (cs := [vint 2]) Tryz.underlying27 el3 (by decide) (by kernel_rfl) rfl (by decide) rfl ?_)))))))))))))
 intro b5 w5 hzl5 hzr5 _ hb5 hE5 ho5
 have hszq5 : w.heap.size ≤ w3.heap.size := hsz
 have hbs_b5 : w.heap.size ≤ b5 := Nat.le_trans hsz hzl5
 replace hB := below_ext hB hE5 hsz
 replace hX3 := hX3.ext hE5
 replace hsz := Nat.le_trans hsz hE5.size
 refine l_o (o_buildSlice (el := 4) (cs := [.bool true]) Tryz.underlying54 el4 (by decide) (by kernel_rfl) rfl (by decide) rfl ?_)
 intro b6 w6 hzl6 hzr6 _ hb6 hE6 ho6
 have hszq6 : w.heap.size ≤ w5.heap.size := hsz
 have hbs_b6 : w.heap.size ≤ b6 := Nat.le_trans hsz hzl6
 replace hB := below_ext hB hE6 hsz
 replace hX3 := hX3.ext hE6
 replace ho5 := own_ext ho5 hE6
 replace hsz := Nat.le_trans hsz hE6.size
 refine l_q (q_build (v := .agg ⟨[.slice (some ⟨b6, 0, none⟩) 1 1, vint 0, vint 1]⟩) (fun w => by kernel_rfl) rfl) (l_o (o_buildSlice (el := 4) (cs := [.bool true]) Tryz.underlying54 el4 (by decide) (by kernel_rfl) rfl (by decide) rfl ?_))
 intro b7 w7 hzl7 hzr7 _ hb7 hE7 ho7
 have hszq7 : w.heap.size ≤ w6.heap.size := hsz
 have hbs_b7 : w.heap.size ≤ b7 := Nat.le_trans hsz hzl7
 replace hB := below_ext hB hE7 hsz
 replace hX3 := hX3.ext hE7
 replace ho5 := own_ext ho5 hE7
 replace ho6 := own_ext ho6 hE7
 replace hsz := Nat.le_trans hsz hE7.size
 refine l_q (q_build (v := .agg ⟨[.slice (some ⟨b7, 0, none⟩) 1 1, vint 0, vint 1]⟩) (fun w => by kernel_rfl) rfl) (l_o (o_buildSlice (el := 76) (cs := [.slice (some ⟨b6, 0, none⟩) 1 1, vint 0, vint 1, .slice (some ⟨b7, 0, none⟩) 1 1, vint 0, vint 1]) Tryz.underlying62 el76 (by decide) (by kernel_rfl) rfl (by decide) rfl ?_))
 intro b8 w8 hzl8 hzr8 _ hb8 hE8 ho8
 have hszq8 : w.heap.size ≤ w7.heap.size := hsz
 have hbs_b8 : w.heap.size ≤ b8 := Nat.le_trans hsz hzl8
 replace hB := below_ext hB hE8 hsz
 replace hX3 := hX3.ext hE8
 replace ho5 := own_ext ho5 hE8
 replace ho6 := own_ext ho6 hE8
 replace ho7 := own_ext ho7 hE8
 replace hsz := Nat.le_trans hsz hE8.size
 refine l_q (q_build (v := .agg ⟨[.slice (some ⟨b5, 0, none⟩) 1 1, .slice (some ⟨b8, 0, none⟩) 2 2, .slice none 0 0]⟩) (fun w => by kernel_rfl) rfl) ?_
 have hppm : ([⟨some ⟨b6, 0, none⟩, 1, [true], 0, 1⟩, ⟨some ⟨b7, 0, none⟩, 1, [true], 0, 1⟩] : List PV).map PV.pn = manPl.map PV.pn := rfl
 have hbgm : PoBig [2] ([⟨some ⟨b6, 0, none⟩, 1, [true], 0, 1⟩, ⟨some ⟨b7, 0, none⟩, 1, [true], 0, 1⟩] : List PV) [] := post_big hppm rfl man_big
 refine l_o (o_call Tryz.call16 rfl ((by have h := best_ret (some ⟨b5, 0, none⟩) 1 [2] (some ⟨b8, 0, none⟩) 2 ([⟨some ⟨b6, 0, none⟩, 1, [true], 0, 1⟩, ⟨some ⟨b7, 0, none⟩, 1, [true], 0, 1⟩] : List PV) none 0 ([] : List SV) _ ⟨(Row.of_owns ho5), (Row.of_owns ho8), (rowsP2 (Row.of_owns ho6) (Row.of_owns ho7)), (Row.nil _ _ _ _), (RowsI.nil _)⟩ hbgm.1 hbgm.2.1 hbgm.2.2.1 hbgm.2.2.2.1; rw [best_pn hppm (rfl : ([] : List SV).map (·.xs) = ([] : List SV).map (·.xs)), man_best] at h; exact h)) rfl ?_)
 rintro _ w9 ⟨ra9, rc9, R9, rfl, hRo9, hRs9, hRm9, hE9⟩
 replace hB := below_ext hB hE9 hsz
 replace hX3 := hX3.ext hE9
 replace hsz := Nat.le_trans hsz hE9.size
 have hR9 := Row.of_owns hRo9
 have hRr9 := hRs9.rows
 refine l_q (q_move (v := .tuple _) rfl rfl) (l_q (q_extract (vs := [_, _, _]) (v := .slice _ _ _) rfl rfl rfl) (l_q (q_extract (vs := [_, _, _]) (v := .int _ _) rfl rfl rfl) (l_q (q_extract (vs := [_, _, _]) (v := .int _ _) rfl rfl rfl) (l_q (qas rfl rfl) (l_q (qai rfl rfl) (l_q (qai rfl rfl) (l_nil (r_forget [(1, .slice _ _ _), (2, .int _ _), (3, .int _ _), (4, .slice _ _ _), (5, .int _ _), (6, .int _ _)] ⟨rfl, rfl, rfl, rfl, rfl, rfl, trivial⟩ (fun e10 => (r_seq (r_region' (l_q (qmi rfl rfl) (l_q (q_eql rfl rfl rfl) (l_q (qmb rfl rfl) ?_))))))))))))))
 have hk11 : (decide (0 = 0)) = true := by first | rfl | decide
 refine l_part 32 rfl (fun _ => ?_) (fun hx => absurd (hk11.symm.trans hx) (by decide))
 refine l_q (qmi rfl rfl) (l_q (q_eql rfl rfl rfl) (l_q (q_pick_t (v := .bool _) rfl rfl rfl) (l_q (qmb rfl rfl) ?_)))
 have hk12 : (decide (4 = 4)) = true := by first | rfl | decide
 refine l_part 36 rfl (fun _ => ?_) (fun hx => absurd (hk12.symm.trans hx) (by decide))
 refine l_q (qms rfl rfl) (l_q (q_len rfl Tryz.underlying27 rfl rfl) (l_q (q_eql rfl rfl rfl) (l_q (q_pick_t (v := .bool _) rfl rfl rfl) (l_q (qmb rfl rfl) ?_))))
 have hk13 : (decide (1 = 1)) = true := by first | rfl | decide
 refine l_part 41 rfl (fun _ => ?_) (fun hx => absurd (hk13.symm.trans hx) (by decide))
 refine l_q (qms rfl rfl) ?_
 obtain ⟨b14, o14, ha14, hh14⟩ := hX3.at1 0 (([2]).getD 0 0) (getD_some (by decide))
 refine l_q (q_indexAddr1 Tryz.underlying27 Tryz.sizeOf3 rfl ha14 rfl (by decide) rfl) (l_q (q_load Tryz.isAgg3 rfl (hh14) rfl) (l_q (q_eql rfl rfl rfl) (l_q (q_pick_t (v := .bool _) rfl rfl rfl) (l_q (qmb rfl rfl) ?_))))
 have hk15 : (decide ((([2]).getD 0 0) = 2)) = true := by first | rfl | decide
 refine l_part 47 rfl (fun _ => ?_) (fun hx => absurd (hk15.symm.trans hx) (by decide))
 refine l_q (qmi rfl rfl) (l_q (q_eql rfl rfl rfl) (l_q (q_pick_t (v := .bool _) rfl rfl rfl) (l_q (qmb rfl rfl) ?_)))
 have hk16 : (decide (0 = 0)) = true := by first | rfl | decide
 refine l_part 51 rfl (fun _ => ?_) (fun hx => absurd (hk16.symm.trans hx) (by decide))
 refine l_q (qmi rfl rfl) (l_q (q_eql rfl rfl rfl) (l_q (q_pick_t (v := .bool _) rfl rfl rfl) (l_q (qmb rfl rfl) ?_)))
 have hk17 : (decide (2 = 2)) = true := by first | rfl | decide
 refine l_part 55 rfl (fun _ => ?_) (fun hx => absurd (hk17.symm.trans hx) (by decide))
 refine l_q (qms rfl rfl) ?_
 have hR1 := rows1 hRm9
 have hR2 := rows2 hRm9
 refine l_q (q_len rfl Tryz.underlying31 rfl rfl) (l_q (q_eql rfl rfl rfl) (l_q (q_pick_t (v := .bool _) rfl rfl rfl) (l_q (qmb rfl rfl) ?_)))
 have hk18 : (decide ((R9.length : Int) = 1)) = true := decide_eq_true (by have := rows1 hRm9; omega)
 refine l_part 60 rfl (fun _ => ?_) (fun hx => absurd (hk18.symm.trans hx) (by decide))
 refine l_q (qms rfl rfl) ?_
 obtain ⟨b19, o19, ha19, hh19⟩ := hR9.at1 0 ((R9).getD 0 sv0) (getD_some (by omega))
 refine l_q (q_indexAddr1 Tryz.underlying31 Tryz.sizeOf27 rfl ha19 rfl (by omega) rfl) (l_q (q_load Tryz.isAgg27 rfl (hh19) rfl) (l_q (q_len rfl Tryz.underlying27 rfl rfl) (l_q (q_eql rfl rfl rfl) (l_q (q_pick_t (v := .bool _) rfl rfl rfl) (l_q (qab rfl rfl) (l_nil (r_forget [(0, .bool _)] ⟨rfl, trivial⟩ (fun e20 => (r_ret_ (vs := [.bool _]) rfl Tryz.func8 rfl (.nil _) ⟨rfl, trivial⟩ ?_)))))))))
 exact ⟨vbool_eq (decide_eq_true (by rw [hR2]; rfl)), Ext.of_below hB⟩
end Go.Proofs.YtbikicakdkbcgabGreat
