/- Contracts. -/
import Derived.Test.YtbikicakdkbcgaaR20
import Derived.Test.YtbikicakdkbcgaaGvSpot
import Derived.Test.YtbikicakdkbcgaaR14
set_option linter.unusedVariables false
set_option linter.unusedSimpArgs false
namespace Go.Proofs.Ytbikicakdkbcgaa
open Go Go.RowKit Go.Gv Go.Fl

/-- the sorted list, computed -/
def insL (x : List Int) : List (List Int) → List (List Int)
  | [] => [x]
  | y :: l => if ltL y x = true then y :: insL x l else x :: y :: l
theorem insL_perm (x : List Int) : ∀ l, (insL x l).Perm (x :: l)
  | [] => List.Perm.refl _
  | y :: l => by
    rw [insL]
    split
    · exact ((insL_perm x l).cons y).trans (List.Perm.swap x y l)
    · exact List.Perm.refl _
theorem insL_sorted (x : List Int) : ∀ l, l.Pairwise (fun x y => ltL y x = false) → (insL x l).Pairwise (fun x y => ltL y x = false)
  | [], _ => List.pairwise_singleton _ _
  | y :: l, h => by
    rw [insL]
    rw [List.pairwise_cons] at h
    split
    · rename_i hy
      rw [List.pairwise_cons]
      refine ⟨fun z hz => ?_, insL_sorted x l h.2⟩
      rcases List.mem_cons.1 ((insL_perm x l).mem_iff.1 hz) with rfl | hz
      · exact ltL_asymm hy
      · exact h.1 z hz
    · rename_i hy
      have hy : ltL y x = false := by simpa using hy
      rw [List.pairwise_cons, List.pairwise_cons]
      refine ⟨fun z hz => ?_, h⟩
      rcases List.mem_cons.1 hz with rfl | hz
      · exact hy
      · exact ltL_ntrans (h.1 z hz) hy
def isort (l : List (List Int)) : List (List Int) := l.foldr insL []
theorem isort_perm : ∀ l, (isort l).Perm l
  | [] => List.Perm.refl _
  | x :: l => (insL_perm x (isort l)).trans ((isort_perm l).cons x)
theorem isort_sorted : ∀ l, (isort l).Pairwise (fun x y => ltL y x = false)
  | [] => List.Pairwise.nil
  | x :: l => insL_sorted x _ (isort_sorted l)
theorem sortL_c (l : List (List Int)) : sortL l = isort l := sorted_uniq ((sortL_perm l).trans (isort_perm l).symm) (sortL_sorted l) (isort_sorted l)
def listsC (xs : List Int) : List (List Int) := isort ((List.range (2 ^ xs.length)).map (fun n => subK xs n xs.length))
theorem lists_c : listsL = listsC := funext fun xs => sortL_c _
def bestC (nd : List Int) (pl : List PV) (L : List SV) : List (List Int) × Int × Int :=
  if faultP (po nd pl L) = 0 then
    (if 1024 ≤ rfe nd pl (L.map (·.xs)) (listsC (upTo pl.length)) 0 stood0 then ([], 0, 10) else (rext nd pl (L.map (·.xs)) (listsC (upTo pl.length)) 0 stood0, rfe nd pl (L.map (·.xs)) (listsC (upTo pl.length)) 0 stood0, 0))
  else ([], 0, faultP (po nd pl L))
theorem best_c : bestR = bestC := by
  funext nd pl L
  unfold bestR bestC
  rw [lists_c]
def canC (nd : List Int) (pl : List PV) (C : List (List Int)) (xs : List Int) : Bool := decide (rfe nd pl C (listsC xs) 0 stood0 < 1024)
theorem can_c : canP = canC := by
  funext nd pl C xs
  unfold canP canC
  rw [lists_c]
def enoughC (nd : List Int) (pl : List PV) (L : List SV) : Int × List Int :=
  if faultP (po nd pl L) = 0 then (match (listsC (upTo pl.length)).find? (canC nd pl (L.map (·.xs))) with | some l => (0, l) | none => (10, []))
  else (faultP (po nd pl L), [])
theorem enough_c : enoughR = enoughC := by
  funext nd pl L
  unfold enoughR enoughC
  rw [lists_c, can_c]
  rfl
def towN : List Int := [1, 1, 1, 1]
def towPl : List PV := [⟨none, 0, [true, true, true, true], 1, 2⟩, ⟨none, 0, [true, true, true, true], 1, 2⟩, ⟨none, 0, [false, true, true, false], 0, 4⟩]
def towL : List SV := [⟨none, 0, [2, -1, -1]⟩]
theorem towL_big : PoBig towN towPl towL := ⟨by decide, by decide, by decide, by decide, by decide⟩
theorem tow_best : bestR towN towPl towL = ([[0], [1], [2], [1]], 4, 0) := by rw [best_c]; decide +kernel
theorem tow_enough : enoughR towN towPl towL = (0, [1, 2]) := by rw [enough_c]; decide +kernel
theorem tow_rules : rulesR towN towPl towL [[0], [0], [2], [1]] = (false, 0) := by decide +kernel
theorem tow_fails : failsX towN (planP (po towN towPl towL) [[0], [1], [0], [1]]) [[0], [1], [0], [1]] (towL.map (·.xs)) = (0, [2, -1]) := by decide +kernel
def glassG : List RG := [⟨10, 20⟩, ⟨5, 25⟩, ⟨0, 10⟩, ⟨10, 15⟩]
theorem glass_bright : brightM 60 glassG [1, 2] = (0, [⟨80, 90⟩, ⟨75, 95⟩, ⟨90, 100⟩, ⟨75, 90⟩]) := by rfl
theorem glass_polish : polishM 60 glassG = (0, [1, 2]) := by decide +kernel
theorem rowsP3 {w : World} {p q r : PV} (h1 : Row w p.a p.ab.length p.c 1 (p.ab.map Value.bool)) (h2 : Row w q.a q.ab.length q.c 1 (q.ab.map Value.bool)) (h3 : Row w r.a r.ab.length r.c 1 (r.ab.map Value.bool)) : RowsP w [p, q, r] := fun x hx => by
  simp only [List.mem_cons, List.not_mem_nil, or_false] at hx
  rcases hx with rfl | rfl | rfl <;> assumption
theorem rowsI_app {w : World} {l l' : List SV} (h : RowsI w l) (h' : RowsI w l') : RowsI w (l ++ l') := fun s hs => (List.mem_append.1 hs).elim (h s) (h' s)
theorem rows_small {R : List SV} {T : List (List Int)} (h : R.map (·.xs) = T) (hT : T.length ≤ 2097152 ∧ ∀ t ∈ T, t.length ≤ 2097152) : R.length ≤ 2097152 ∧ ∀ s ∈ R, s.xs.length ≤ 2097152 := by
  subst h
  rw [List.length_map] at hT
  exact ⟨hT.1, fun s hs => hT.2 _ (List.mem_map.2 ⟨s, hs, rfl⟩)⟩
section
variable {P : Program} {ops : Array Oper} {e : Env} {w : World} {d : Option Nat} {ty : TypeId} {pos : String} {af : Array Edge} {g : Option (Nat × Bool)} {t st : TypeId}
theorem q_eql_pair (h : PairTy P t st) {yt : TypeId} {x y : Operand} {a b c f : Int} (hm : P.eqGuardType P.depth t = false) (hx : ev e x = .agg ⟨[vint a, vint b]⟩) (hy : ev e y = .agg ⟨[vint c, vint f]⟩)
    (hw : wantedE ops e ⟨d, .binOp .eql t x y yt, ty, pos, af, g⟩ = true) : QuietAt P ops e w ⟨d, .binOp .eql t x y yt, ty, pos, af, g⟩ (.bool (decide (a = c) && decide (b = f))) := by
  refine .inl ⟨hw, rfl, ?_⟩
  have h := h.equal (d := 9998) a b c f w
  simp only [execOp, hx, hy, Sem.run_bind, run_eqGuard_agg w _ _ _ _ _ _ hm, Result.andThen_ok, run_eql_struct]
  rw [h]; rfl
theorem q_neq_pair (h : PairTy P t st) {yt : TypeId} {x y : Operand} {a b c f : Int} (hm : P.eqGuardType P.depth t = false) (hx : ev e x = .agg ⟨[vint a, vint b]⟩) (hy : ev e y = .agg ⟨[vint c, vint f]⟩)
    (hw : wantedE ops e ⟨d, .binOp .neq t x y yt, ty, pos, af, g⟩ = true) : QuietAt P ops e w ⟨d, .binOp .neq t x y yt, ty, pos, af, g⟩ (.bool (!(decide (a = c) && decide (b = f)))) := by
  refine .inl ⟨hw, rfl, ?_⟩
  have h := h.equal (d := 9998) a b c f w
  simp only [execOp, hx, hy, Sem.run_bind, run_eqGuard_agg w _ _ _ _ _ _ hm, Result.andThen_ok, run_neq_struct]
  rw [h]; rfl
end

theorem el4 : Elem Try.prog 4 (.bool false) 1 1 := elem_of (by kernel_rfl) rfl (by decide)
theorem el45 : Elem Try.prog 45 (.agg ⟨[.slice none 0 0, vint 0, vint 0]⟩) 3 40 := elem_of (by kernel_rfl) rfl (by decide)
theorem pairTy41 : PairTy Try.prog 41 3 := ⟨⟨_, _, Try.underlying41, ⟨by decide, rfl, rfl⟩, ⟨by decide, rfl, rfl⟩⟩, ⟨_, Try.underlying3⟩, Try.isAgg3, Try.isAgg41, Try.sizeOf41, by kernel_rfl, by kernel_rfl, by kernel_rfl⟩
theorem tower_ret (ra : Option Addr) (rc : Nat) (R : List SV) (w : World) (hR : Row w ra R.length rc 1 (R.map SV.enc)) (hRr : RowsI w R) (hRl : R.length ≤ 2) (hRx : ∀ s ∈ R, s.xs.length ≤ 8) : Ret Try.prog 5 [.slice ra R.length rc] w (fun v w' => ∃ na2 nc2 pa2 pc2 pl2 ca2 cc2 L2, v = .agg ⟨[.slice na2 towN.length nc2, .slice pa2 (List.length pl2) pc2, .slice ca2 (List.length L2) cc2]⟩ ∧ PoAt w' na2 nc2 towN pa2 pc2 pl2 ca2 cc2 L2 ∧ pl2.map PV.pn = towPl.map PV.pn ∧ L2.map (·.xs) = [2, -1, -1] :: (R.map (·.xs)) ∧ Ext w w') := by
 have hB := Below.refl w.heap.size w
 have hsz : w.heap.size ≤ w.heap.size := Nat.le_refl _
 refine ret_of_runs (args := [_]) Try.func5 rfl (Nat.le_of_ble_eq_true rfl) (by kernel_rfl) (r_seq (r_region' (l_o (o_alloct Try.zeroValue29 rfl rfl ?_))))
 intro b1 w1 hzl1 hzr1 _ hb1 hty_b1 hE1
 have hbs_b1 : w.heap.size ≤ b1 := Nat.le_trans hsz hzl1
 replace hB := below_ext hB hE1 hsz
 replace hsz := Nat.le_trans hsz hE1.size
 refine l_nil (r_seq (r_region' (l_o (o_buildSlice (el := 4) (cs := [.bool true, .bool true, .bool true, .bool true]) Try.underlying43 el4 (by decide) (by kernel_rfl) rfl (by decide) rfl ?_))))
 intro b2 w2 hzl2 hzr2 _ hb2 hE2 ho2
 have hne_b1_b2 : b1 ≠ b2 := by have := hb1.lt; omega
 have hbs_b2 : w.heap.size ≤ b2 := Nat.le_trans hsz hzl2
 replace hB := below_ext hB hE2 hsz
 replace hb1 := hb1.ext hE2
 replace hty_b1 := hty_b1.ext hE2
 replace hsz := Nat.le_trans hsz hE2.size
 refine l_q (qas rfl rfl) (l_nil (r_seq (r_region' (l_o (o_buildSlice (el := 3) (cs := [vint 1, vint 1, vint 1, vint 1]) Try.underlying26 el3 (by decide) (by kernel_rfl) rfl (by decide) rfl ?_)))))
 intro b3 w3 hzl3 hzr3 _ hb3 hE3 ho3
 have hne_b1_b3 : b1 ≠ b3 := by have := hb1.lt; omega
 have hbs_b3 : w.heap.size ≤ b3 := Nat.le_trans hsz hzl3
 replace hB := below_ext hB hE3 hsz
 replace hb1 := hb1.ext hE3
 replace hty_b1 := hty_b1.ext hE3
 replace ho2 := own_ext ho2 hE3
 replace hsz := Nat.le_trans hsz hE3.size
 refine l_q (qms rfl rfl) (l_q (q_build (v := .agg ⟨[.slice (some ⟨b2, 0, none⟩) 4 4, vint 1, vint 2]⟩) (fun w => by kernel_rfl) rfl) (l_q (qms rfl rfl) (l_q (q_build (v := .agg ⟨[.slice (some ⟨b2, 0, none⟩) 4 4, vint 1, vint 2]⟩) (fun w => by kernel_rfl) rfl) (l_o (o_buildSlice (el := 4) (cs := [.bool false, .bool true, .bool true, .bool false]) Try.underlying43 el4 (by decide) (by kernel_rfl) rfl (by decide) rfl ?_)))))
 intro b4 w4 hzl4 hzr4 _ hb4 hE4 ho4
 have hne_b1_b4 : b1 ≠ b4 := by have := hb1.lt; omega
 have hbs_b4 : w.heap.size ≤ b4 := Nat.le_trans hsz hzl4
 replace hB := below_ext hB hE4 hsz
 replace hb1 := hb1.ext hE4
 replace hty_b1 := hty_b1.ext hE4
 replace ho2 := own_ext ho2 hE4
 replace ho3 := own_ext ho3 hE4
 replace hsz := Nat.le_trans hsz hE4.size
 refine l_q (q_build (v := .agg ⟨[.slice (some ⟨b4, 0, none⟩) 4 4, vint 0, vint 4]⟩) (fun w => by kernel_rfl) rfl) (l_o (o_buildSlice (el := 45) (cs := [.slice (some ⟨b2, 0, none⟩) 4 4, vint 1, vint 2, .slice (some ⟨b2, 0, none⟩) 4 4, vint 1, vint 2, .slice (some ⟨b4, 0, none⟩) 4 4, vint 0, vint 4]) Try.underlying27 el45 (by decide) (by kernel_rfl) rfl (by decide) rfl ?_))
 intro b5 w5 hzl5 hzr5 _ hb5 hE5 ho5
 have hne_b1_b5 : b1 ≠ b5 := by have := hb1.lt; omega
 have hbs_b5 : w.heap.size ≤ b5 := Nat.le_trans hsz hzl5
 replace hB := below_ext hB hE5 hsz
 replace hb1 := hb1.ext hE5
 replace hty_b1 := hty_b1.ext hE5
 replace ho2 := own_ext ho2 hE5
 replace ho3 := own_ext ho3 hE5
 replace ho4 := own_ext ho4 hE5
 replace hsz := Nat.le_trans hsz hE5.size
 refine l_o (o_buildSlice (el := 3) (cs := [vint 2, vint (-1), vint (-1)]) Try.underlying26 el3 (by decide) (by kernel_rfl) rfl (by decide) rfl ?_)
 intro b6 w6 hzl6 hzr6 _ hb6 hE6 ho6
 have hne_b1_b6 : b1 ≠ b6 := by have := hb1.lt; omega
 have hbs_b6 : w.heap.size ≤ b6 := Nat.le_trans hsz hzl6
 replace hB := below_ext hB hE6 hsz
 replace hb1 := hb1.ext hE6
 replace hty_b1 := hty_b1.ext hE6
 replace ho2 := own_ext ho2 hE6
 replace ho3 := own_ext ho3 hE6
 replace ho4 := own_ext ho4 hE6
 replace ho5 := own_ext ho5 hE6
 replace hsz := Nat.le_trans hsz hE6.size
 refine l_o (o_buildSlice (el := 26) (cs := [.slice (some ⟨b6, 0, none⟩) 3 3]) Try.underlying22 el26 (by decide) (by kernel_rfl) rfl (by decide) rfl ?_)
 intro b7 w7 hzl7 hzr7 _ hb7 hE7 ho7
 have hne_b1_b7 : b1 ≠ b7 := by have := hb1.lt; omega
 have hbs_b7 : w.heap.size ≤ b7 := Nat.le_trans hsz hzl7
 replace hB := below_ext hB hE7 hsz
 replace hb1 := hb1.ext hE7
 replace hty_b1 := hty_b1.ext hE7
 replace ho2 := own_ext ho2 hE7
 replace ho3 := own_ext ho3 hE7
 replace ho4 := own_ext ho4 hE7
 replace ho5 := own_ext ho5 hE7
 replace ho6 := own_ext ho6 hE7
 replace hsz := Nat.le_trans hsz hE7.size
 have hos7 : OwnsI w7 w.heap.size 3 ([⟨some ⟨b6, 0, none⟩, 3, [2, (-1), (-1)]⟩] : List SV) := OwnsI.snoc (OwnsI.nil _ _ _) (own_mono ho6 (by omega))
 refine l_q (qms rfl rfl) (l_o (o_append_map (f := SV.enc) (([⟨some ⟨b6, 0, none⟩, 3, [2, (-1), (-1)]⟩] : List SV)) (R) Try.underlying22 el26 rfl rfl ho7 rfl (hR.below hB) (fun _ => rfl) (by (try simp only [List.length_append, List.length_cons, List.length_nil, List.length_take, List.length_drop, List.length_replicate]); omega) (by omega) rfl ?_))
 intro a8 c8 w8 hz8 ho8 hG8
 replace hB := below_own hB hG8 ho7 (by omega) hsz
 replace hsz := Nat.le_trans hsz hG8.size
 replace hb1 := hb1.step hG8 (own_ty_ne ho7 hty_b1 (by decide))
 replace ho2 := own_kept ho2 ho7 (by decide) hG8
 replace ho3 := own_kept ho3 ho7 (by decide) hG8
 replace ho4 := own_kept ho4 ho7 (by decide) hG8
 replace ho5 := own_kept ho5 ho7 (by decide) hG8
 replace hos7 := hos7.kept ho7 (by decide) hG8
 replace hty_b1 := TyAt.own hty_b1 ho7 hG8 (by decide)
 refine l_q (q_build (v := .agg ⟨[.slice (some ⟨b3, 0, none⟩) 4 4, .slice (some ⟨b5, 0, none⟩) 3 3, .slice a8 ((([⟨some ⟨b6, 0, none⟩, 3, [2, (-1), (-1)]⟩] : List SV) ++ R).length) c8]⟩) (fun w => by kernel_rfl) rfl) (l_o (o_storet (vs := [.slice (some ⟨b3, 0, none⟩) 4 4, .slice (some ⟨b5, 0, none⟩) 3 3, .slice a8 ((([⟨some ⟨b6, 0, none⟩, 3, [2, (-1), (-1)]⟩] : List SV) ++ R).length) c8]) (cs' := [.slice (some ⟨b3, 0, none⟩) 4 4, .slice (some ⟨b5, 0, none⟩) 3 3, .slice a8 ((([⟨some ⟨b6, 0, none⟩, 3, [2, (-1), (-1)]⟩] : List SV) ++ R).length) c8]) Try.sizeOf29 rfl rfl rfl rfl hb1 (Nat.le_of_ble_eq_true rfl) rfl rfl ?_))
 intro w9 hz9 hb1 hT9 hG9
 replace hB := below_upd hB hG9 hsz (by omega)
 replace hsz : w.heap.size ≤ w9.heap.size := by rw [hz9]; exact hsz
 replace ho2 := own_ty_upd ho2 hty_b1 hG9 (by decide)
 replace ho3 := own_ty_upd ho3 hty_b1 hG9 (by decide)
 replace ho4 := own_ty_upd ho4 hty_b1 hG9 (by decide)
 replace ho5 := own_ty_upd ho5 hty_b1 hG9 (by decide)
 replace hos7 := OwnsI.tyupd hos7 hty_b1 hG9 (by decide)
 replace ho8 := own_ty_upd ho8 hty_b1 hG9 (by decide)
 refine l_nil (r_forget [(2, .pointer _)] ⟨rfl, trivial⟩ (fun e10 => (r_ret_ (vs := [.agg _]) rfl Try.func5 rfl (.nil _) ⟨⟨_, _, rfl, run_loadVarA Try.isAgg29 Try.sizeOf29 (hb1.cells' (cs' := [_, _, _]) 0 3 rfl) rfl⟩, trivial⟩ ?_)))
 exact ⟨some ⟨b3, 0, none⟩, 4, some ⟨b5, 0, none⟩, 3, [⟨some ⟨b2, 0, none⟩, 4, [true, true, true, true], 1, 2⟩, ⟨some ⟨b2, 0, none⟩, 4, [true, true, true, true], 1, 2⟩, ⟨some ⟨b4, 0, none⟩, 4, [false, true, true, false], 0, 4⟩], a8, c8, ([⟨some ⟨b6, 0, none⟩, 3, [2, (-1), (-1)]⟩] : List SV) ++ R, rfl, ⟨Row.of_owns ho3, Row.of_owns ho5, rowsP3 (Row.of_owns ho2) (Row.of_owns ho2) (Row.of_owns ho4), Row.of_owns ho8, rowsI_app hos7.rows (hRr.below hB)⟩, rfl, rfl, Ext.of_below hB⟩
theorem glass_ret (w : World) : Ret Try.prog 7 [] w (fun v w' => ∃ ga gc, v = .agg ⟨[vint 60, .slice ga glassG.length gc]⟩ ∧ Row w' ga glassG.length gc 2 (glassG.flatMap RG.enc) ∧ Ext w w') := by
 have hB := Below.refl w.heap.size w
 have hsz : w.heap.size ≤ w.heap.size := Nat.le_refl _
 refine ret_of_runs (args := []) Try.func7 rfl (Nat.le_of_ble_eq_true rfl) (by kernel_rfl) (r_seq (r_region' (l_o (o_alloct Try.zeroValue35 rfl rfl ?_))))
 intro b1 w1 hzl1 hzr1 _ hb1 hty_b1 hE1
 have hbs_b1 : w.heap.size ≤ b1 := Nat.le_trans hsz hzl1
 replace hB := below_ext hB hE1 hsz
 replace hsz := Nat.le_trans hsz hE1.size
 refine l_nil (r_seq (r_region' (l_q (q_build (v := .agg ⟨[vint 10, vint 20]⟩) (fun w => by kernel_rfl) rfl) (l_q (q_build (v := .agg ⟨[vint 5, vint 25]⟩) (fun w => by kernel_rfl) rfl) (l_q (q_build (v := .agg ⟨[vint 0, vint 10]⟩) (fun w => by kernel_rfl) rfl) (l_q (q_build (v := .agg ⟨[vint 10, vint 15]⟩) (fun w => by kernel_rfl) rfl) (l_o (o_buildSlice (el := 41) (cs := [vint 10, vint 20, vint 5, vint 25, vint 0, vint 10, vint 10, vint 15]) Try.underlying31 el41 (by decide) (by kernel_rfl) rfl (by decide) rfl ?_))))))))
 intro b2 w2 hzl2 hzr2 _ hb2 hE2 ho2
 have hne_b1_b2 : b1 ≠ b2 := by have := hb1.lt; omega
 have hbs_b2 : w.heap.size ≤ b2 := Nat.le_trans hsz hzl2
 replace hB := below_ext hB hE2 hsz
 replace hb1 := hb1.ext hE2
 replace hty_b1 := hty_b1.ext hE2
 replace hsz := Nat.le_trans hsz hE2.size
 refine l_q (q_build (v := .agg ⟨[vint 60, .slice (some ⟨b2, 0, none⟩) 4 4]⟩) (fun w => by kernel_rfl) rfl) (l_o (o_storet (vs := [vint 60, .slice (some ⟨b2, 0, none⟩) 4 4]) (cs' := [vint 60, .slice (some ⟨b2, 0, none⟩) 4 4]) Try.sizeOf35 rfl rfl rfl rfl hb1 (Nat.le_of_ble_eq_true rfl) rfl rfl ?_))
 intro w3 hz3 hb1 hT3 hG3
 replace hB := below_upd hB hG3 hsz (by omega)
 replace hsz : w.heap.size ≤ w3.heap.size := by rw [hz3]; exact hsz
 replace ho2 := own_ty_upd ho2 hty_b1 hG3 (by decide)
 refine l_nil (r_ret_ (vs := [.agg _]) rfl Try.func7 rfl (.nil _) ⟨⟨_, _, rfl, run_loadVarA Try.isAgg35 Try.sizeOf35 (hb1.cells' (cs' := [_, _]) 0 2 rfl) rfl⟩, trivial⟩ ?_)
 exact ⟨some ⟨b2, 0, none⟩, 4, rfl, Row.of_owns ho2, Ext.of_below hB⟩
theorem awake_ret (w : World) : Ret Try.prog 14 [] w (fun v w' => v = .bool true ∧ Ext w w') := by
 have hB := Below.refl w.heap.size w
 have hsz : w.heap.size ≤ w.heap.size := Nat.le_refl _
 refine ret_of_runs (args := []) Try.func14 rfl (Nat.le_of_ble_eq_true rfl) (by kernel_rfl) (r_seq (r_region' (l_q (qab rfl rfl) (l_nil (r_seq (r_region' (l_o (o_call Try.call5 rfl (tower_ret none 0 [] _ (Row.nil _ _ _ _) (RowsI.nil _) (by decide) (by simp)) rfl ?_))))))))
 rintro _ w1 ⟨pna1, pnc1, ppa1, ppc1, ppl1, pca1, pcc1, pL1, rfl, hpo1, hpp1, hpL1, hE1⟩
 replace hB := below_ext hB hE1 hsz
 replace hsz := Nat.le_trans hsz hE1.size
 replace hpL1 : pL1.map (·.xs) = towL.map (·.xs) := hpL1
 have hbg1 := post_big hpp1 hpL1 towL_big
 refine l_o (o_call Try.call4 rfl ((by have h := best_ret pna1 pnc1 towN ppa1 ppc1 ppl1 pca1 pcc1 pL1 _ hpo1 hbg1.1 hbg1.2.1 hbg1.2.2.1 hbg1.2.2.2.1; rw [best_pn hpp1 hpL1, tow_best] at h; exact h)) rfl ?_)
 rintro _ w2 ⟨ra2, rc2, R2, rfl, hRo2, hRs2, hRm2, hE2⟩
 replace hB := below_ext hB hE2 hsz
 replace hsz := Nat.le_trans hsz hE2.size
 have hR2 := Row.of_owns hRo2
 have hRr2 := hRs2.rows
 refine l_q (q_move (v := .tuple _) rfl rfl) (l_q (q_extract (vs := [_, _, _]) (v := .slice _ _ _) rfl rfl rfl) (l_q (q_extract (vs := [_, _, _]) (v := .int _ _) rfl rfl rfl) (l_q (q_extract (vs := [_, _, _]) (v := .int _ _) rfl rfl rfl) (l_q (qas rfl rfl) (l_q (qai rfl rfl) (l_q (qai rfl rfl) (l_nil (r_seq (r_region' (l_o (o_call Try.call5 rfl (tower_ret none 0 [] _ (Row.nil _ _ _ _) (RowsI.nil _) (by decide) (by simp)) rfl ?_)))))))))))
 rintro _ w3 ⟨pna3, pnc3, ppa3, ppc3, ppl3, pca3, pcc3, pL3, rfl, hpo3, hpp3, hpL3, hE3⟩
 replace hB := below_ext hB hE3 hsz
 replace hR2 := hR2.ext hE3
 replace hRr2 := hRr2.ext hE3
 replace hsz := Nat.le_trans hsz hE3.size
 replace hpL3 : pL3.map (·.xs) = towL.map (·.xs) := hpL3
 have hbg3 := post_big hpp3 hpL3 towL_big
 refine l_o (o_call Try.call11 rfl ((by have h := enough_ret pna3 pnc3 towN ppa3 ppc3 ppl3 pca3 pcc3 pL3 _ hpo3 hbg3.1 hbg3.2.1 hbg3.2.2.1 hbg3.2.2.2.1; rw [enough_pn hpp3 hpL3, tow_enough] at h; exact h)) rfl ?_)
 rintro _ w4 ⟨ea4, ec4, rfl, he4, hE4⟩
 replace hB := below_ext hB hE4 hsz
 replace hR2 := hR2.ext hE4
 replace hRr2 := hRr2.ext hE4
 replace hsz := Nat.le_trans hsz hE4.size
 refine l_q (q_move (v := .tuple _) rfl rfl) (l_q (q_extract (vs := [_, _]) (v := .slice _ _ _) rfl rfl rfl) (l_q (q_extract (vs := [_, _]) (v := .int _ _) rfl rfl rfl) (l_q (qas rfl rfl) (l_q (qai rfl rfl) (l_nil (r_forget [(1, .slice _ _ _), (2, .int _ _), (3, .int _ _), (4, .slice _ _ _), (5, .int _ _)] ⟨rfl, rfl, rfl, rfl, rfl, trivial⟩ (fun e5 => (r_seq (r_region' (l_o (o_call Try.call5 rfl (tower_ret none 0 [] _ (Row.nil _ _ _ _) (RowsI.nil _) (by decide) (by simp)) rfl ?_)))))))))))
 rintro _ w6 ⟨pna6, pnc6, ppa6, ppc6, ppl6, pca6, pcc6, pL6, rfl, hpo6, hpp6, hpL6, hE6⟩
 replace hB := below_ext hB hE6 hsz
 replace hR2 := hR2.ext hE6
 replace hRr2 := hRr2.ext hE6
 replace he4 := he4.ext hE6
 replace hsz := Nat.le_trans hsz hE6.size
 replace hpL6 : pL6.map (·.xs) = towL.map (·.xs) := hpL6
 have hbg6 := post_big hpp6 hpL6 towL_big
 refine l_o (o_buildSlice (el := 3) (cs := [vint 0]) Try.underlying26 el3 (by decide) (by kernel_rfl) rfl (by decide) rfl ?_)
 intro b7 w7 hzl7 hzr7 _ hb7 hE7 ho7
 have hszq7 : w.heap.size ≤ w6.heap.size := hsz
 have hbs_b7 : w.heap.size ≤ b7 := Nat.le_trans hsz hzl7
 replace hB := below_ext hB hE7 hsz
 replace hR2 := hR2.ext hE7
 replace hRr2 := hRr2.ext hE7
 replace he4 := he4.ext hE7
 replace hpo6 := hpo6.ext hE7
 replace hsz := Nat.le_trans hsz hE7.size
 refine l_o (o_buildSlice (el := 3) (cs := [vint 0]) Try.underlying26 el3 (by decide) (by kernel_rfl) rfl (by decide) rfl ?_)
 intro b8 w8 hzl8 hzr8 _ hb8 hE8 ho8
 have hszq8 : w.heap.size ≤ w7.heap.size := hsz
 have hbs_b8 : w.heap.size ≤ b8 := Nat.le_trans hsz hzl8
 replace hB := below_ext hB hE8 hsz
 replace hR2 := hR2.ext hE8
 replace hRr2 := hRr2.ext hE8
 replace he4 := he4.ext hE8
 replace hpo6 := hpo6.ext hE8
 replace ho7 := own_ext ho7 hE8
 replace hsz := Nat.le_trans hsz hE8.size
 refine l_o (o_buildSlice (el := 3) (cs := [vint 2]) Try.underlying26 el3 (by decide) (by kernel_rfl) rfl (by decide) rfl ?_)
 intro b9 w9 hzl9 hzr9 _ hb9 hE9 ho9
 have hszq9 : w.heap.size ≤ w8.heap.size := hsz
 have hbs_b9 : w.heap.size ≤ b9 := Nat.le_trans hsz hzl9
 replace hB := below_ext hB hE9 hsz
 replace hR2 := hR2.ext hE9
 replace hRr2 := hRr2.ext hE9
 replace he4 := he4.ext hE9
 replace hpo6 := hpo6.ext hE9
 replace ho7 := own_ext ho7 hE9
 replace ho8 := own_ext ho8 hE9
 replace hsz := Nat.le_trans hsz hE9.size
 refine l_o (o_buildSlice (el := 3) (cs := [vint 1]) Try.underlying26 el3 (by decide) (by kernel_rfl) rfl (by decide) rfl ?_)
 intro b10 w10 hzl10 hzr10 _ hb10 hE10 ho10
 have hszq10 : w.heap.size ≤ w9.heap.size := hsz
 have hbs_b10 : w.heap.size ≤ b10 := Nat.le_trans hsz hzl10
 replace hB := below_ext hB hE10 hsz
 replace hR2 := hR2.ext hE10
 replace hRr2 := hRr2.ext hE10
 replace he4 := he4.ext hE10
 replace hpo6 := hpo6.ext hE10
 replace ho7 := own_ext ho7 hE10
 replace ho8 := own_ext ho8 hE10
 replace ho9 := own_ext ho9 hE10
 replace hsz := Nat.le_trans hsz hE10.size
 refine l_o (o_buildSlice (el := 26) (cs := [.slice (some ⟨b7, 0, none⟩) 1 1, .slice (some ⟨b8, 0, none⟩) 1 1, .slice (some ⟨b9, 0, none⟩) 1 1, .slice (some ⟨b10, 0, none⟩) 1 1]) Try.underlying22 el26 (by decide) (by kernel_rfl) rfl (by decide) rfl ?_)
 intro b11 w11 hzl11 hzr11 _ hb11 hE11 ho11
 have hszq11 : w.heap.size ≤ w10.heap.size := hsz
 have hbs_b11 : w.heap.size ≤ b11 := Nat.le_trans hsz hzl11
 replace hB := below_ext hB hE11 hsz
 replace hR2 := hR2.ext hE11
 replace hRr2 := hRr2.ext hE11
 replace he4 := he4.ext hE11
 replace hpo6 := hpo6.ext hE11
 replace ho7 := own_ext ho7 hE11
 replace ho8 := own_ext ho8 hE11
 replace ho9 := own_ext ho9 hE11
 replace ho10 := own_ext ho10 hE11
 replace hsz := Nat.le_trans hsz hE11.size
 have hos11 : OwnsI w11 w.heap.size 3 ([⟨some ⟨b7, 0, none⟩, 1, [0]⟩, ⟨some ⟨b8, 0, none⟩, 1, [0]⟩, ⟨some ⟨b9, 0, none⟩, 1, [2]⟩, ⟨some ⟨b10, 0, none⟩, 1, [1]⟩] : List SV) := OwnsI.snoc (OwnsI.snoc (OwnsI.snoc (OwnsI.snoc (OwnsI.nil _ _ _) (own_mono ho7 (by omega))) (own_mono ho8 (by omega))) (own_mono ho9 (by omega))) (own_mono ho10 (by omega))
 refine l_o (o_call Try.call8 rfl ((by have h := Rules_ret pna6 pnc6 towN ppa6 ppc6 ppl6 pca6 pcc6 pL6 _ _ ([⟨some ⟨b7, 0, none⟩, 1, [0]⟩, ⟨some ⟨b8, 0, none⟩, 1, [0]⟩, ⟨some ⟨b9, 0, none⟩, 1, [2]⟩, ⟨some ⟨b10, 0, none⟩, 1, [1]⟩] : List SV) _ hpo6 hbg6.1 hbg6.2.1 hbg6.2.2.1 hbg6.2.2.2.1 (Row.of_owns ho11) hos11.rows (by simp) (by simp); rw [rules_pn hpp6 hpL6, (show rulesR towN towPl towL (([⟨some ⟨b7, 0, none⟩, 1, [0]⟩, ⟨some ⟨b8, 0, none⟩, 1, [0]⟩, ⟨some ⟨b9, 0, none⟩, 1, [2]⟩, ⟨some ⟨b10, 0, none⟩, 1, [1]⟩] : List SV).map (·.xs)) = _ from tow_rules)] at h; exact h)) rfl ?_)
 rintro _ w12 ⟨rfl, hE12⟩
 replace hB := below_ext hB hE12 hsz
 replace hR2 := hR2.ext hE12
 replace hRr2 := hRr2.ext hE12
 replace he4 := he4.ext hE12
 replace hsz := Nat.le_trans hsz hE12.size
 refine l_q (q_move (v := .tuple _) rfl rfl) (l_q (q_extract (vs := [_, _]) (v := .bool _) rfl rfl rfl) (l_q (q_extract (vs := [_, _]) (v := .int _ _) rfl rfl rfl) (l_q (qab rfl rfl) (l_q (qai rfl rfl) (l_nil (r_forget [(1, .slice _ _ _), (2, .int _ _), (3, .int _ _), (4, .slice _ _ _), (5, .int _ _), (6, .bool _), (7, .int _ _)] ⟨rfl, rfl, rfl, rfl, rfl, rfl, rfl, trivial⟩ (fun e13 => (r_seq (r_region' (l_o (o_call Try.call5 rfl (tower_ret none 0 [] _ (Row.nil _ _ _ _) (RowsI.nil _) (by decide) (by simp)) rfl ?_)))))))))))
 rintro _ w14 ⟨pna14, pnc14, ppa14, ppc14, ppl14, pca14, pcc14, pL14, rfl, hpo14, hpp14, hpL14, hE14⟩
 replace hB := below_ext hB hE14 hsz
 replace hR2 := hR2.ext hE14
 replace hRr2 := hRr2.ext hE14
 replace he4 := he4.ext hE14
 replace hsz := Nat.le_trans hsz hE14.size
 replace hpL14 : pL14.map (·.xs) = towL.map (·.xs) := hpL14
 have hbg14 := post_big hpp14 hpL14 towL_big
 refine l_o (o_buildSlice (el := 3) (cs := [vint 0]) Try.underlying26 el3 (by decide) (by kernel_rfl) rfl (by decide) rfl ?_)
 intro b15 w15 hzl15 hzr15 _ hb15 hE15 ho15
 have hszq15 : w.heap.size ≤ w14.heap.size := hsz
 have hbs_b15 : w.heap.size ≤ b15 := Nat.le_trans hsz hzl15
 replace hB := below_ext hB hE15 hsz
 replace hR2 := hR2.ext hE15
 replace hRr2 := hRr2.ext hE15
 replace he4 := he4.ext hE15
 replace hpo14 := hpo14.ext hE15
 replace hsz := Nat.le_trans hsz hE15.size
 refine l_o (o_buildSlice (el := 3) (cs := [vint 1]) Try.underlying26 el3 (by decide) (by kernel_rfl) rfl (by decide) rfl ?_)
 intro b16 w16 hzl16 hzr16 _ hb16 hE16 ho16
 have hszq16 : w.heap.size ≤ w15.heap.size := hsz
 have hbs_b16 : w.heap.size ≤ b16 := Nat.le_trans hsz hzl16
 replace hB := below_ext hB hE16 hsz
 replace hR2 := hR2.ext hE16
 replace hRr2 := hRr2.ext hE16
 replace he4 := he4.ext hE16
 replace hpo14 := hpo14.ext hE16
 replace ho15 := own_ext ho15 hE16
 replace hsz := Nat.le_trans hsz hE16.size
 refine l_o (o_buildSlice (el := 3) (cs := [vint 0]) Try.underlying26 el3 (by decide) (by kernel_rfl) rfl (by decide) rfl ?_)
 intro b17 w17 hzl17 hzr17 _ hb17 hE17 ho17
 have hszq17 : w.heap.size ≤ w16.heap.size := hsz
 have hbs_b17 : w.heap.size ≤ b17 := Nat.le_trans hsz hzl17
 replace hB := below_ext hB hE17 hsz
 replace hR2 := hR2.ext hE17
 replace hRr2 := hRr2.ext hE17
 replace he4 := he4.ext hE17
 replace hpo14 := hpo14.ext hE17
 replace ho15 := own_ext ho15 hE17
 replace ho16 := own_ext ho16 hE17
 replace hsz := Nat.le_trans hsz hE17.size
 refine l_o (o_buildSlice (el := 3) (cs := [vint 1]) Try.underlying26 el3 (by decide) (by kernel_rfl) rfl (by decide) rfl ?_)
 intro b18 w18 hzl18 hzr18 _ hb18 hE18 ho18
 have hszq18 : w.heap.size ≤ w17.heap.size := hsz
 have hbs_b18 : w.heap.size ≤ b18 := Nat.le_trans hsz hzl18
 replace hB := below_ext hB hE18 hsz
 replace hR2 := hR2.ext hE18
 replace hRr2 := hRr2.ext hE18
 replace he4 := he4.ext hE18
 replace hpo14 := hpo14.ext hE18
 replace ho15 := own_ext ho15 hE18
 replace ho16 := own_ext ho16 hE18
 replace ho17 := own_ext ho17 hE18
 replace hsz := Nat.le_trans hsz hE18.size
 refine l_o (o_buildSlice (el := 26) (cs := [.slice (some ⟨b15, 0, none⟩) 1 1, .slice (some ⟨b16, 0, none⟩) 1 1, .slice (some ⟨b17, 0, none⟩) 1 1, .slice (some ⟨b18, 0, none⟩) 1 1]) Try.underlying22 el26 (by decide) (by kernel_rfl) rfl (by decide) rfl ?_)
 intro b19 w19 hzl19 hzr19 _ hb19 hE19 ho19
 have hszq19 : w.heap.size ≤ w18.heap.size := hsz
 have hbs_b19 : w.heap.size ≤ b19 := Nat.le_trans hsz hzl19
 replace hB := below_ext hB hE19 hsz
 replace hR2 := hR2.ext hE19
 replace hRr2 := hRr2.ext hE19
 replace he4 := he4.ext hE19
 replace hpo14 := hpo14.ext hE19
 replace ho15 := own_ext ho15 hE19
 replace ho16 := own_ext ho16 hE19
 replace ho17 := own_ext ho17 hE19
 replace ho18 := own_ext ho18 hE19
 replace hsz := Nat.le_trans hsz hE19.size
 have hos19 : OwnsI w19 w.heap.size 3 ([⟨some ⟨b15, 0, none⟩, 1, [0]⟩, ⟨some ⟨b16, 0, none⟩, 1, [1]⟩, ⟨some ⟨b17, 0, none⟩, 1, [0]⟩, ⟨some ⟨b18, 0, none⟩, 1, [1]⟩] : List SV) := OwnsI.snoc (OwnsI.snoc (OwnsI.snoc (OwnsI.snoc (OwnsI.nil _ _ _) (own_mono ho15 (by omega))) (own_mono ho16 (by omega))) (own_mono ho17 (by omega))) (own_mono ho18 (by omega))
 refine l_o (o_call Try.call42 rfl ((by have h := Fails_ret pna14 pnc14 towN ppa14 ppc14 ppl14 pca14 pcc14 pL14 _ _ ([⟨some ⟨b15, 0, none⟩, 1, [0]⟩, ⟨some ⟨b16, 0, none⟩, 1, [1]⟩, ⟨some ⟨b17, 0, none⟩, 1, [0]⟩, ⟨some ⟨b18, 0, none⟩, 1, [1]⟩] : List SV) _ hpo14 hbg14.1 hbg14.2.1 hbg14.2.2.1 hbg14.2.2.2.1 (Row.of_owns ho19) hos19.rows (by simp) (by simp); rw [fails_eq (hpo14).rCr, po_pn hpp14 hpL14, hpL14, (show failsX towN (planP (po towN towPl towL) (([⟨some ⟨b15, 0, none⟩, 1, [0]⟩, ⟨some ⟨b16, 0, none⟩, 1, [1]⟩, ⟨some ⟨b17, 0, none⟩, 1, [0]⟩, ⟨some ⟨b18, 0, none⟩, 1, [1]⟩] : List SV).map (·.xs))) (([⟨some ⟨b15, 0, none⟩, 1, [0]⟩, ⟨some ⟨b16, 0, none⟩, 1, [1]⟩, ⟨some ⟨b17, 0, none⟩, 1, [0]⟩, ⟨some ⟨b18, 0, none⟩, 1, [1]⟩] : List SV).map (·.xs)) (towL.map (·.xs)) = _ from tow_fails)] at h; exact h)) rfl ?_)
 rintro _ w20 ⟨fa20, fc20, rfl, hf20, hE20⟩
 replace hB := below_ext hB hE20 hsz
 replace hR2 := hR2.ext hE20
 replace hRr2 := hRr2.ext hE20
 replace he4 := he4.ext hE20
 replace hsz := Nat.le_trans hsz hE20.size
 refine l_q (q_move (v := .tuple _) rfl rfl) (l_q (q_extract (vs := [_, _]) (v := .slice _ _ _) rfl rfl rfl) (l_q (q_extract (vs := [_, _]) (v := .int _ _) rfl rfl rfl) (l_q (qas rfl rfl) (l_q (qai rfl rfl) (l_nil (r_forget [(1, .slice _ _ _), (2, .int _ _), (3, .int _ _), (4, .slice _ _ _), (5, .int _ _), (6, .bool _), (7, .int _ _), (8, .slice _ _ _), (9, .int _ _)] ⟨rfl, rfl, rfl, rfl, rfl, rfl, rfl, rfl, rfl, trivial⟩ (fun e21 => (r_seq (r_region' (l_o (o_call Try.call7 rfl (glass_ret _) rfl ?_)))))))))))
 rintro _ w22 ⟨ga22, gc22, rfl, hgl22, hE22⟩
 replace hB := below_ext hB hE22 hsz
 replace hR2 := hR2.ext hE22
 replace hRr2 := hRr2.ext hE22
 replace he4 := he4.ext hE22
 replace hf20 := hf20.ext hE22
 replace hsz := Nat.le_trans hsz hE22.size
 refine l_o (o_buildSlice (el := 3) (cs := [vint 1, vint 2]) Try.underlying26 el3 (by decide) (by kernel_rfl) rfl (by decide) rfl ?_)
 intro b23 w23 hzl23 hzr23 _ hb23 hE23 ho23
 have hszq23 : w.heap.size ≤ w22.heap.size := hsz
 have hbs_b23 : w.heap.size ≤ b23 := Nat.le_trans hsz hzl23
 replace hB := below_ext hB hE23 hsz
 replace hR2 := hR2.ext hE23
 replace hRr2 := hRr2.ext hE23
 replace he4 := he4.ext hE23
 replace hf20 := hf20.ext hE23
 replace hgl22 := hgl22.ext hE23
 replace hsz := Nat.le_trans hsz hE23.size
 refine l_o (o_call Try.call6 rfl ((by have h := bright_ret 60 ga22 gc22 glassG (some ⟨b23, 0, none⟩) 2 [1, 2] _ hgl22 (by decide) (Row.of_owns ho23) (by decide); rw [glass_bright] at h; exact h)) rfl ?_)
 rintro _ w24 ⟨ba24, bc24, rfl, hbr24, hE24⟩
 replace hB := below_ext hB hE24 hsz
 replace hR2 := hR2.ext hE24
 replace hRr2 := hRr2.ext hE24
 replace he4 := he4.ext hE24
 replace hf20 := hf20.ext hE24
 replace hsz := Nat.le_trans hsz hE24.size
 refine l_q (q_move (v := .tuple _) rfl rfl) (l_q (q_extract (vs := [_, _]) (v := .slice _ _ _) rfl rfl rfl) (l_q (q_extract (vs := [_, _]) (v := .int _ _) rfl rfl rfl) (l_q (qas rfl rfl) (l_q (qai rfl rfl) (l_nil (r_seq (r_region' (l_o (o_call Try.call7 rfl (glass_ret _) rfl ?_)))))))))
 rintro _ w25 ⟨ga25, gc25, rfl, hgl25, hE25⟩
 replace hB := below_ext hB hE25 hsz
 replace hR2 := hR2.ext hE25
 replace hRr2 := hRr2.ext hE25
 replace he4 := he4.ext hE25
 replace hf20 := hf20.ext hE25
 replace hbr24 := hbr24.ext hE25
 replace hsz := Nat.le_trans hsz hE25.size
 refine l_o (o_call Try.call12 rfl ((by have h := polish_ret 60 ga25 gc25 glassG _ hgl25 (by decide); rw [glass_polish] at h; exact h)) rfl ?_)
 rintro _ w26 ⟨la26, lc26, rfl, hpl26, hE26⟩
 replace hB := below_ext hB hE26 hsz
 replace hR2 := hR2.ext hE26
 replace hRr2 := hRr2.ext hE26
 replace he4 := he4.ext hE26
 replace hf20 := hf20.ext hE26
 replace hbr24 := hbr24.ext hE26
 replace hsz := Nat.le_trans hsz hE26.size
 refine l_q (q_move (v := .tuple _) rfl rfl) (l_q (q_extract (vs := [_, _]) (v := .slice _ _ _) rfl rfl rfl) (l_q (q_extract (vs := [_, _]) (v := .int _ _) rfl rfl rfl) (l_q (qas rfl rfl) (l_q (qai rfl rfl) (l_nil (r_forget [(1, .slice _ _ _), (2, .int _ _), (3, .int _ _), (4, .slice _ _ _), (5, .int _ _), (6, .bool _), (7, .int _ _), (8, .slice _ _ _), (9, .int _ _), (10, .slice _ _ _), (11, .int _ _), (12, .slice _ _ _), (13, .int _ _)] ⟨rfl, rfl, rfl, rfl, rfl, rfl, rfl, rfl, rfl, rfl, rfl, rfl, rfl, trivial⟩ (fun e27 => (r_seq (r_region' (l_q (qmi rfl rfl) (l_q (q_eql rfl rfl rfl) (l_q (qmb rfl rfl) ?_))))))))))))
 have hk28 : (decide (0 = 0)) = true := by decide
 refine l_part 58 rfl (fun _ => ?_) (fun hx => absurd (hk28.symm.trans hx) (by decide))
 refine l_q (qmi rfl rfl) (l_q (q_eql rfl rfl rfl) (l_q (q_pick_t (v := .bool _) rfl rfl rfl) (l_q (qmb rfl rfl) ?_)))
 have hk29 : (decide (4 = 4)) = true := by decide
 refine l_part 62 rfl (fun _ => ?_) (fun hx => absurd (hk29.symm.trans hx) (by decide))
 refine l_q (qms rfl rfl) (l_o (o_buildSlice (el := 3) (cs := [vint 0]) Try.underlying26 el3 (by decide) (by kernel_rfl) rfl (by decide) rfl ?_))
 intro b30 w30 hzl30 hzr30 _ hb30 hE30 ho30
 have hszq30 : w.heap.size ≤ w26.heap.size := hsz
 have hbs_b30 : w.heap.size ≤ b30 := Nat.le_trans hsz hzl30
 replace hB := below_ext hB hE30 hsz
 replace hR2 := hR2.ext hE30
 replace hRr2 := hRr2.ext hE30
 replace he4 := he4.ext hE30
 replace hf20 := hf20.ext hE30
 replace hbr24 := hbr24.ext hE30
 replace hpl26 := hpl26.ext hE30
 replace hsz := Nat.le_trans hsz hE30.size
 refine l_o (o_buildSlice (el := 3) (cs := [vint 1]) Try.underlying26 el3 (by decide) (by kernel_rfl) rfl (by decide) rfl ?_)
 intro b31 w31 hzl31 hzr31 _ hb31 hE31 ho31
 have hszq31 : w.heap.size ≤ w30.heap.size := hsz
 have hbs_b31 : w.heap.size ≤ b31 := Nat.le_trans hsz hzl31
 replace hB := below_ext hB hE31 hsz
 replace hR2 := hR2.ext hE31
 replace hRr2 := hRr2.ext hE31
 replace he4 := he4.ext hE31
 replace hf20 := hf20.ext hE31
 replace hbr24 := hbr24.ext hE31
 replace hpl26 := hpl26.ext hE31
 replace ho30 := own_ext ho30 hE31
 replace hsz := Nat.le_trans hsz hE31.size
 refine l_o (o_buildSlice (el := 3) (cs := [vint 2]) Try.underlying26 el3 (by decide) (by kernel_rfl) rfl (by decide) rfl ?_)
 intro b32 w32 hzl32 hzr32 _ hb32 hE32 ho32
 have hszq32 : w.heap.size ≤ w31.heap.size := hsz
 have hbs_b32 : w.heap.size ≤ b32 := Nat.le_trans hsz hzl32
 replace hB := below_ext hB hE32 hsz
 replace hR2 := hR2.ext hE32
 replace hRr2 := hRr2.ext hE32
 replace he4 := he4.ext hE32
 replace hf20 := hf20.ext hE32
 replace hbr24 := hbr24.ext hE32
 replace hpl26 := hpl26.ext hE32
 replace ho30 := own_ext ho30 hE32
 replace ho31 := own_ext ho31 hE32
 replace hsz := Nat.le_trans hsz hE32.size
 refine l_o (o_buildSlice (el := 3) (cs := [vint 1]) Try.underlying26 el3 (by decide) (by kernel_rfl) rfl (by decide) rfl ?_)
 intro b33 w33 hzl33 hzr33 _ hb33 hE33 ho33
 have hszq33 : w.heap.size ≤ w32.heap.size := hsz
 have hbs_b33 : w.heap.size ≤ b33 := Nat.le_trans hsz hzl33
 replace hB := below_ext hB hE33 hsz
 replace hR2 := hR2.ext hE33
 replace hRr2 := hRr2.ext hE33
 replace he4 := he4.ext hE33
 replace hf20 := hf20.ext hE33
 replace hbr24 := hbr24.ext hE33
 replace hpl26 := hpl26.ext hE33
 replace ho30 := own_ext ho30 hE33
 replace ho31 := own_ext ho31 hE33
 replace ho32 := own_ext ho32 hE33
 replace hsz := Nat.le_trans hsz hE33.size
 refine l_o (o_buildSlice (el := 26) (cs := [.slice (some ⟨b30, 0, none⟩) 1 1, .slice (some ⟨b31, 0, none⟩) 1 1, .slice (some ⟨b32, 0, none⟩) 1 1, .slice (some ⟨b33, 0, none⟩) 1 1]) Try.underlying22 el26 (by decide) (by kernel_rfl) rfl (by decide) rfl ?_)
 intro b34 w34 hzl34 hzr34 _ hb34 hE34 ho34
 have hszq34 : w.heap.size ≤ w33.heap.size := hsz
 have hbs_b34 : w.heap.size ≤ b34 := Nat.le_trans hsz hzl34
 replace hB := below_ext hB hE34 hsz
 replace hR2 := hR2.ext hE34
 replace hRr2 := hRr2.ext hE34
 replace he4 := he4.ext hE34
 replace hf20 := hf20.ext hE34
 replace hbr24 := hbr24.ext hE34
 replace hpl26 := hpl26.ext hE34
 replace ho30 := own_ext ho30 hE34
 replace ho31 := own_ext ho31 hE34
 replace ho32 := own_ext ho32 hE34
 replace ho33 := own_ext ho33 hE34
 replace hsz := Nat.le_trans hsz hE34.size
 have hos34 : OwnsI w34 w.heap.size 3 ([⟨some ⟨b30, 0, none⟩, 1, [0]⟩, ⟨some ⟨b31, 0, none⟩, 1, [1]⟩, ⟨some ⟨b32, 0, none⟩, 1, [2]⟩, ⟨some ⟨b33, 0, none⟩, 1, [1]⟩] : List SV) := OwnsI.snoc (OwnsI.snoc (OwnsI.snoc (OwnsI.snoc (OwnsI.nil _ _ _) (own_mono ho30 (by omega))) (own_mono ho31 (by omega))) (own_mono ho32 (by omega))) (own_mono ho33 (by omega))
 refine l_o (o_call Try.call9 rfl (lsame10_ret _ _ R2 _ _ ([⟨some ⟨b30, 0, none⟩, 1, [0]⟩, ⟨some ⟨b31, 0, none⟩, 1, [1]⟩, ⟨some ⟨b32, 0, none⟩, 1, [2]⟩, ⟨some ⟨b33, 0, none⟩, 1, [1]⟩] : List SV) _ hR2 hRr2 (rows_small (hRm2) (by decide)).1 (rows_small (hRm2) (by decide)).2 (Row.of_owns ho34) hos34.rows (by simp) (by simp)) rfl ?_)
 rintro _ w35 ⟨rfl, hE35⟩
 replace hB := below_ext hB hE35 hsz
 replace he4 := he4.ext hE35
 replace hf20 := hf20.ext hE35
 replace hbr24 := hbr24.ext hE35
 replace hpl26 := hpl26.ext hE35
 replace hsz := Nat.le_trans hsz hE35.size
 refine l_q (q_pick_t (v := .bool _) rfl rfl rfl) (l_q (qmb rfl rfl) ?_)
 have hk36 : (decide (R2.map (·.xs) = [[0], [1], [2], [1]])) = true := decide_eq_true hRm2
 refine l_part 71 rfl (fun _ => ?_) (fun hx => absurd (hk36.symm.trans hx) (by decide))
 refine l_q (qmi rfl rfl) (l_q (q_eql rfl rfl rfl) (l_q (q_pick_t (v := .bool _) rfl rfl rfl) (l_q (qmb rfl rfl) ?_)))
 have hk37 : (decide (0 = 0)) = true := by decide
 refine l_part 75 rfl (fun _ => ?_) (fun hx => absurd (hk37.symm.trans hx) (by decide))
 refine l_q (qms rfl rfl) (l_o (o_buildSlice (el := 3) (cs := [vint 1, vint 2]) Try.underlying26 el3 (by decide) (by kernel_rfl) rfl (by decide) rfl ?_))
 intro b38 w38 hzl38 hzr38 _ hb38 hE38 ho38
 have hszq38 : w.heap.size ≤ w35.heap.size := hsz
 have hbs_b38 : w.heap.size ≤ b38 := Nat.le_trans hsz hzl38
 replace hB := below_ext hB hE38 hsz
 replace he4 := he4.ext hE38
 replace hf20 := hf20.ext hE38
 replace hbr24 := hbr24.ext hE38
 replace hpl26 := hpl26.ext hE38
 replace hsz := Nat.le_trans hsz hE38.size
 refine l_o (o_call Try.call29 rfl (same10_ret _ _ [1, 2] _ _ [1, 2] _ he4 (by decide) (Row.of_owns ho38) (by decide)) rfl ?_)
 rintro _ w39 ⟨rfl, hE39⟩
 replace hB := below_ext hB hE39 hsz
 replace hf20 := hf20.ext hE39
 replace hbr24 := hbr24.ext hE39
 replace hpl26 := hpl26.ext hE39
 replace hsz := Nat.le_trans hsz hE39.size
 refine l_q (q_pick_t (v := .bool _) rfl rfl rfl) (l_q (qmb rfl rfl) ?_)
 have hk40 : (decide ([1, 2] = [1, 2])) = true := by decide
 refine l_part 80 rfl (fun _ => ?_) (fun hx => absurd (hk40.symm.trans hx) (by decide))
 refine l_q (qmi rfl rfl) (l_q (q_eql rfl rfl rfl) (l_q (q_pick_t (v := .bool _) rfl rfl rfl) (l_q (qmb rfl rfl) ?_)))
 have hk41 : (decide (0 = 0)) = true := by decide
 refine l_part 84 rfl (fun _ => ?_) (fun hx => absurd (hk41.symm.trans hx) (by decide))
 refine l_q (qmb rfl rfl) (l_q (q_not rfl rfl) (l_q (q_pick_t (v := .bool _) rfl rfl rfl) (l_q (qmb rfl rfl) (l_q (qmi rfl rfl) (l_q (q_eql rfl rfl rfl) (l_q (q_pick_t (v := .bool _) rfl rfl rfl) (l_q (qmb rfl rfl) ?_)))))))
 have hk42 : (decide (0 = 0)) = true := by decide
 refine l_part 92 rfl (fun _ => ?_) (fun hx => absurd (hk42.symm.trans hx) (by decide))
 refine l_q (qms rfl rfl) (l_o (o_buildSlice (el := 3) (cs := [vint 2, vint (-1)]) Try.underlying26 el3 (by decide) (by kernel_rfl) rfl (by decide) rfl ?_))
 intro b43 w43 hzl43 hzr43 _ hb43 hE43 ho43
 have hszq43 : w.heap.size ≤ w39.heap.size := hsz
 have hbs_b43 : w.heap.size ≤ b43 := Nat.le_trans hsz hzl43
 replace hB := below_ext hB hE43 hsz
 replace hf20 := hf20.ext hE43
 replace hbr24 := hbr24.ext hE43
 replace hpl26 := hpl26.ext hE43
 replace hsz := Nat.le_trans hsz hE43.size
 refine l_o (o_call Try.call29 rfl (same10_ret _ _ [2, -1] _ _ [2, -1] _ hf20 (by decide) (Row.of_owns ho43) (by decide)) rfl ?_)
 rintro _ w44 ⟨rfl, hE44⟩
 replace hB := below_ext hB hE44 hsz
 replace hbr24 := hbr24.ext hE44
 replace hpl26 := hpl26.ext hE44
 replace hsz := Nat.le_trans hsz hE44.size
 refine l_q (q_pick_t (v := .bool _) rfl rfl rfl) (l_q (qmb rfl rfl) ?_)
 have hk45 : (decide ([2, -1] = [2, -1])) = true := by decide
 refine l_part 97 rfl (fun _ => ?_) (fun hx => absurd (hk45.symm.trans hx) (by decide))
 refine l_q (qmi rfl rfl) (l_q (q_eql rfl rfl rfl) (l_q (q_pick_t (v := .bool _) rfl rfl rfl) (l_q (qmb rfl rfl) ?_)))
 have hk46 : (decide (0 = 0)) = true := by decide
 refine l_part 101 rfl (fun _ => ?_) (fun hx => absurd (hk46.symm.trans hx) (by decide))
 refine l_q (qms rfl rfl) (l_q (q_len rfl Try.underlying31 rfl rfl) (l_q (q_eql rfl rfl rfl) (l_q (q_pick_t (v := .bool _) rfl rfl rfl) (l_q (qmb rfl rfl) ?_))))
 have hk47 : (decide (((([⟨80, 90⟩, ⟨75, 95⟩, ⟨90, 100⟩, ⟨75, 90⟩] : List RG)).length : Int) = 4)) = true := by decide
 refine l_part 106 rfl (fun _ => ?_) (fun hx => absurd (hk47.symm.trans hx) (by decide))
 refine l_q (qms rfl rfl) ?_
 obtain ⟨b48, o48, ha48, hh48⟩ := hbr24.at (by decide) 1 (by decide)
 refine l_q (q_indexAddr Try.underlying31 Try.sizeOf41 rfl ha48 rfl (by decide) rfl) (l_q (q_load_agg (cs := [vint (((([⟨80, 90⟩, ⟨75, 95⟩, ⟨90, 100⟩, ⟨75, 90⟩] : List RG)).getD 1 rg0).lo), vint (((([⟨80, 90⟩, ⟨75, 95⟩, ⟨90, 100⟩, ⟨75, 90⟩] : List RG)).getD 1 rg0).hi)]) (n := 2) Try.isAgg41 Try.sizeOf41 rfl ((cells_cast (wide_at RG.len rg0 _ _ (by decide)) hh48)) rfl rfl) (l_q (q_build (v := .agg ⟨[vint 75, vint 95]⟩) (fun w => by kernel_rfl) rfl) (l_q (q_eql_pair pairTy41 (by kernel_rfl) rfl rfl rfl) (l_q (q_pick_t (v := .bool _) rfl rfl rfl) (l_q (qmb rfl rfl) ?_)))))
 have hk49 : (decide ((((([⟨80, 90⟩, ⟨75, 95⟩, ⟨90, 100⟩, ⟨75, 90⟩] : List RG)).getD 1 rg0).lo) = 75) && decide ((((([⟨80, 90⟩, ⟨75, 95⟩, ⟨90, 100⟩, ⟨75, 90⟩] : List RG)).getD 1 rg0).hi) = 95)) = true := by decide
 refine l_part 113 rfl (fun _ => ?_) (fun hx => absurd (hk49.symm.trans hx) (by decide))
 refine l_q (qms rfl rfl) ?_
 obtain ⟨b50, o50, ha50, hh50⟩ := hbr24.at (by decide) 3 (by decide)
 refine l_q (q_indexAddr Try.underlying31 Try.sizeOf41 rfl ha50 rfl (by decide) rfl) (l_q (q_load_agg (cs := [vint (((([⟨80, 90⟩, ⟨75, 95⟩, ⟨90, 100⟩, ⟨75, 90⟩] : List RG)).getD 3 rg0).lo), vint (((([⟨80, 90⟩, ⟨75, 95⟩, ⟨90, 100⟩, ⟨75, 90⟩] : List RG)).getD 3 rg0).hi)]) (n := 2) Try.isAgg41 Try.sizeOf41 rfl ((cells_cast (wide_at RG.len rg0 _ _ (by decide)) hh50)) rfl rfl) (l_q (q_build (v := .agg ⟨[vint 75, vint 90]⟩) (fun w => by kernel_rfl) rfl) (l_q (q_eql_pair pairTy41 (by kernel_rfl) rfl rfl rfl) (l_q (q_pick_t (v := .bool _) rfl rfl rfl) (l_q (qmb rfl rfl) ?_)))))
 have hk51 : (decide ((((([⟨80, 90⟩, ⟨75, 95⟩, ⟨90, 100⟩, ⟨75, 90⟩] : List RG)).getD 3 rg0).lo) = 75) && decide ((((([⟨80, 90⟩, ⟨75, 95⟩, ⟨90, 100⟩, ⟨75, 90⟩] : List RG)).getD 3 rg0).hi) = 90)) = true := by decide
 refine l_part 120 rfl (fun _ => ?_) (fun hx => absurd (hk51.symm.trans hx) (by decide))
 refine l_q (qmi rfl rfl) (l_q (q_eql rfl rfl rfl) (l_q (q_pick_t (v := .bool _) rfl rfl rfl) (l_q (qmb rfl rfl) ?_)))
 have hk52 : (decide (0 = 0)) = true := by decide
 refine l_part 124 rfl (fun _ => ?_) (fun hx => absurd (hk52.symm.trans hx) (by decide))
 refine l_q (qms rfl rfl) (l_o (o_buildSlice (el := 3) (cs := [vint 1, vint 2]) Try.underlying26 el3 (by decide) (by kernel_rfl) rfl (by decide) rfl ?_))
 intro b53 w53 hzl53 hzr53 _ hb53 hE53 ho53
 have hszq53 : w.heap.size ≤ w44.heap.size := hsz
 have hbs_b53 : w.heap.size ≤ b53 := Nat.le_trans hsz hzl53
 replace hB := below_ext hB hE53 hsz
 replace hpl26 := hpl26.ext hE53
 replace hsz := Nat.le_trans hsz hE53.size
 refine l_o (o_call Try.call29 rfl (same10_ret _ _ [1, 2] _ _ [1, 2] _ hpl26 (by decide) (Row.of_owns ho53) (by decide)) rfl ?_)
 rintro _ w54 ⟨rfl, hE54⟩
 replace hB := below_ext hB hE54 hsz
 replace hsz := Nat.le_trans hsz hE54.size
 refine l_q (q_pick_t (v := .bool _) rfl rfl rfl) (l_q (qab rfl rfl) (l_nil (r_forget [(0, .bool _)] ⟨rfl, trivial⟩ (fun e55 => (r_ret_ (vs := [.bool _]) rfl Try.func14 rfl (.nil _) ⟨rfl, trivial⟩ ?_)))))
 exact ⟨vbool_eq (by decide), Ext.of_below hB⟩
end Go.Proofs.Ytbikicakdkbcgaa
