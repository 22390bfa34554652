/- Contracts. -/
import Derived.Test.YtekkdhpgcilpdaaGreatM7
set_option linter.unusedVariables false
set_option linter.unusedSimpArgs false
namespace Go.Proofs.YtekkdhpgcilpdaaGreat
open Go Go.RowKit Go.Gv Go.Fl

theorem any_has {xs : List Int} {n : Int} : xs.any (fun x => decide (n = x)) = hasI xs n := by
  unfold hasI
  congr 1
  funext x
  rw [decide_eq_decide]
  exact eq_comm
theorem bmap {u : List Bool} {i : Nat} (h : i < u.length) : (u.map Value.bool)[i]? = some (.bool (u.getD i false)) := by
  rw [List.getElem?_map, List.getD_eq_getElem?_getD, List.getElem?_eq_getElem h]; rfl
theorem bmap_set {u : List Bool} {i : Nat} {x : Bool} : (u.map Value.bool).set i (.bool x) = (u.set i x).map Value.bool := by rw [List.map_set]
def canC (C : List (List Int)) (n b : Int) : Bool := decide (0 ≤ n ∧ b ∈ C.getD n.toNat [])
def freeOk (C : List (List Int)) (n b : Int) (u : List Bool) : Bool := canC C n b && (decide (b = -1) || !u.getD b.toNat false)
def freeU (C : List (List Int)) (n b : Int) (u : List Bool) : List Bool := if freeOk C n b u = true then (if b = -1 then u else u.set b.toNat true) else u
theorem canF_look {C : List (List Int)} {es : List MapEntry} {n b : Int} (h : HoldsK pairV es (canF C)) : (∀ e ∈ es, e.key = pairV (n, b) → (.bool (canC C n b) : Value) = e.val) ∧ ((∀ e ∈ es, e.key ≠ pairV (n, b)) → (.bool (canC C n b) : Value) = .bool false) := by
  have h1 := h.look pairV_inj (n, b) (.bool false)
  have h2 : (canF C (n, b)).getD (.bool false) = .bool (canC C n b) := by
    unfold canF canC
    by_cases hx : 0 ≤ n ∧ b ∈ C.getD n.toNat []
    · rw [if_pos hx, decide_eq_true hx]; rfl
    · rw [if_neg hx, decide_eq_false hx]; rfl
  rwa [h2] at h1
section
variable {C : List (List Int)} {n b : Int} {u : List Bool}
theorem freeU_len (h : u.length = 8) : (freeU C n b u).length = 8 := by
  unfold freeU
  split
  · split
    · exact h
    · rw [List.length_set]; exact h
  · exact h
end
section
variable {C : List (List Int)} {n b : Int} {u : List Bool} {w w' : World}
theorem free_t1 (g : canC C n b = false) : freeOk C n b u = false := by unfold freeOk; rw [g]; rfl
theorem free_t2 (g : ¬ b = -1) (g2 : u.getD b.toNat false = true) : freeOk C n b u = false := by unfold freeOk; rw [decide_eq_false g, g2]; simp
theorem free_t3 (g1 : canC C n b = true) (g : ¬ b = -1) (g2 : u.getD b.toNat false = false) : freeOk C n b u = true := by unfold freeOk; rw [g1, decide_eq_false g, g2]; rfl
theorem free_t4 (g1 : canC C n b = true) (g : b = -1) : freeOk C n b u = true := by unfold freeOk; rw [g1, decide_eq_true g]; rfl
theorem free_o0 (h : freeOk C n b u = false) : (Value.tuple ⟨[.agg ⟨u.map Value.bool⟩, .bool false]⟩) = .tuple ⟨[.agg ⟨(freeU C n b u).map Value.bool⟩, .bool (freeOk C n b u)]⟩ := by
  unfold freeU; rw [h, if_neg (by decide)]
theorem free_o1 (h : freeOk C n b u = true) (hb : b = -1) : (Value.tuple ⟨[.agg ⟨u.map Value.bool⟩, .bool true]⟩) = .tuple ⟨[.agg ⟨(freeU C n b u).map Value.bool⟩, .bool (freeOk C n b u)]⟩ := by
  unfold freeU; rw [h, if_pos rfl, if_pos hb]
theorem free_o2 (h : freeOk C n b u = true) (hb : ¬ b = -1) : (Value.tuple ⟨[.agg ⟨(u.set b.toNat true).map Value.bool⟩, .bool true]⟩) = .tuple ⟨[.agg ⟨(freeU C n b u).map Value.bool⟩, .bool (freeOk C n b u)]⟩ := by
  unfold freeU; rw [h, if_pos rfl, if_neg hb]
end
/-- u says which dispatches the list p uses -/
def UsedBy (p : List Int) (u : List Bool) : Prop := u.length = 8 ∧ ∀ i : Nat, i < 8 → u.getD i false = hasI p (i : Int)
theorem has_snoc {p : List Int} {b i : Int} : hasI (p ++ [b]) i = (hasI p i || decide (b = i)) := by
  unfold hasI; rw [List.any_append]; simp
theorem UsedBy.nil : UsedBy [] (List.replicate 8 false) := ⟨rfl, fun i hi => by
  rw [List.getD_eq_getElem?_getD, List.getElem?_replicate, if_pos hi]; rfl⟩
theorem UsedBy.neg {p : List Int} {u : List Bool} {b : Int} (h : UsedBy p u) (hb : b < 0) : UsedBy (p ++ [b]) u := ⟨h.1, fun i hi => by
  rw [has_snoc, h.2 i hi, decide_eq_false (by omega), Bool.or_false]⟩
theorem UsedBy.put {p : List Int} {u : List Bool} {b : Int} (h : UsedBy p u) (hb : 0 ≤ b ∧ b ≤ 7) : UsedBy (p ++ [b]) (u.set b.toNat true) := ⟨by rw [List.length_set]; exact h.1, fun i hi => by
  have h8 := h.1
  rw [has_snoc, ← h.2 i hi, List.getD_eq_getElem?_getD, List.getElem?_set]
  by_cases hi2 : b.toNat = i
  · rw [if_pos hi2, if_pos (by omega), decide_eq_true (by omega), Bool.or_true]; rfl
  · rw [if_neg hi2, decide_eq_false (by omega), Bool.or_false, List.getD_eq_getElem?_getD]⟩
section
variable {l : Lg} {p : List Int} {u : List Bool} {b : Int} {C : List (List Int)}
theorem mem_own {r : RC} (hb : 0 ≤ b ∧ b < l.J.length) : b ∈ ownL l r ↔ ownB l r (l.J.getD b.toNat sn0) = true := by
  unfold ownL
  rw [List.mem_map]
  constructor
  · rintro ⟨i, hi, rfl⟩
    rw [Int.toNat_natCast]
    exact (List.mem_filter.1 hi).2
  · intro h
    exact ⟨b.toNat, List.mem_filter.2 ⟨List.mem_range.2 (by omega), h⟩, by omega⟩
theorem mem_cand {k : Nat} (hb : -1 ≤ b ∧ b < l.J.length) : b ∈ candL l (l.R.getD k rcd0) ↔ canB l k b = true := by
  unfold candL canB
  rw [List.mem_append]
  by_cases h : b = -1
  · subst h
    rw [if_pos rfl]
    unfold falL
    constructor
    · rintro (h | h)
      · unfold ownL at h
        obtain ⟨i, _, h2⟩ := List.mem_map.1 h
        omega
      · split at h
        · assumption
        · simp at h
    · intro h; right; rw [if_pos h]; simp
  · rw [if_neg h, mem_own (by omega)]
    constructor
    · rintro (h2 | h2)
      · exact h2
      · unfold falL at h2
        split at h2
        · exact absurd (by simpa using h2) h
        · simp at h2
    · exact fun h2 => .inl h2
theorem can_eq {k : Nat} (hk : k < l.R.length) (hb : -1 ≤ b ∧ b < l.J.length) : canC (l.R.map (candL l)) (k : Int) b = canB l k b := by
  unfold canC
  rw [Bool.eq_iff_iff, decide_eq_true_eq, ← mem_cand hb, Int.toNat_natCast]
  have : (l.R.map (candL l)).getD k [] = candL l (l.R.getD k rcd0) := by
    rw [List.getD_eq_getElem?_getD, List.getElem?_map, List.getD_eq_getElem?_getD, List.getElem?_eq_getElem hk]; rfl
  rw [this]
  exact ⟨fun h => h.2, fun h => ⟨Int.natCast_nonneg _, h⟩⟩
theorem free_step (hk : p.length < l.R.length) (hb : -1 ≤ b ∧ b < l.J.length) (hj : l.J.length ≤ 8) (hu : UsedBy p u) : freeOk (l.R.map (candL l)) (p.length : Int) b u = stepB (canB l) p b := by
  unfold freeOk stepB freeP
  rw [can_eq hk hb]
  by_cases h : b = -1
  · rw [decide_eq_true h]; rfl
  · rw [hu.2 b.toNat (by omega), show ((b.toNat : Nat) : Int) = b by omega]
theorem free_used {n : Int} (hb : -1 ≤ b ∧ b ≤ 7) (hu : UsedBy p u) (h : freeOk C n b u = true) : UsedBy (p ++ [b]) (freeU C n b u) := by
  unfold freeU
  rw [if_pos h]
  by_cases h2 : b = -1
  · rw [if_pos h2]; exact hu.neg (by omega)
  · rw [if_neg h2]; exact hu.put (by omega)
end
/-- the fewest, as far as they are looked at -/
def fewG (can : Nat → Int → Bool) (m : Nat) (out : Nat → Bool) (k : Nat) (p : List Int) (i : Nat) : Int := ((bys m).take i).foldl (fun x b => if stepB can p b = true then min x (fewF can m out k (p ++ [b]) + costB b) else x) 1024
section
variable {can : Nat → Int → Bool} {m k i : Nat} {out : Nat → Bool} {p : List Int} {x : Int}
theorem fewG_no (hi : i < m + 1) (hx : x = fewG can m out k p i) (h : stepB can p ((i : Int) - 1) = false) : x = fewG can m out k p (i + 1) := by
  rw [hx]; unfold fewG; rw [bys_take hi, List.foldl_append, List.foldl_cons, List.foldl_nil, if_neg (by rw [h]; decide)]
theorem fewG_yes {y : Int} (hi : i < m + 1) (hx : x = fewG can m out k p i) (h : stepB can p ((i : Int) - 1) = true) (hy : y = fewF can m out k (p ++ [(i : Int) - 1]) + costB ((i : Int) - 1)) : min x y = fewG can m out k p (i + 1) := by
  rw [hx, hy]; unfold fewG; rw [bys_take hi, List.foldl_append, List.foldl_cons, List.foldl_nil, if_pos h]
theorem fewG_all (hi : m + 1 ≤ i) (ho : out p.length = false) : fewG can m out k p i = fewF can m out (k + 1) p := by
  unfold fewG; rw [List.take_of_length_le (by rw [bys_len]; exact hi), fewF, if_neg (by rw [ho]; decide)]
theorem few_out1 (ho : out p.length = true) : fewF can m out (k + 1) p = fewF can m out k (p ++ [-2]) := by rw [fewF, if_pos ho]
theorem cost_1 {b : Int} (h : b = -1) : costB b = 1 := if_pos h
theorem cost_0 {b : Int} (h : ¬ b = -1) : costB b = 0 := if_neg h
theorem min_2 (x y : Int) : minOf [x, y] = min x y := by
  show min (min x x) y = min x y
  omega
theorem outL_nil : outL [] = noB := rfl
end

theorem fld96_0 (w : World) (b o : Nat) : (Instr.fieldAt 96 (ptr b o) 0).run Tryz.prog w = .ok (ptr b (o + 0)) w := by
  simp [Instr.fieldAt, run_underlying Tryz.underlying96, fieldPlace, Instr.sureAddr, Tryz.sizeOf38, Addr.add_lit]
theorem index_int_ret (xa : Option Addr) (xc : Nat) (xs : List Int) (n : Int) (w : World) (hx : Row w xa xs.length xc 1 (xs.map vint)) (hxn : xs.length ≤ 2097152) : Ret Tryz.prog 134 [.slice xa xs.length xc, vint n] w (fun v w' => v = vint (idxI (fun i => decide (n = xs.getD i 0)) xs.length) ∧ w = w') := by
 have hB := Below.refl w.heap.size w
 have hsz : w.heap.size ≤ w.heap.size := Nat.le_refl _
 refine ret_of_runs (args := [_, _]) Tryz.func134 rfl (Nat.le_of_ble_eq_true rfl) (by kernel_rfl) (r_seq (r_region' (l_q (qai rfl rfl) (l_nil (r_seq (r_seq (r_region' (l_q (qms rfl rfl) (l_q (q_len rfl Tryz.underlying25 rfl rfl) (l_q (qmi rfl rfl) (l_nil (r_block (r_rounds (α := Nat) (fun k e wl => Knows e [(0, .slice xa xs.length xc), (1, vint n), (7, vint (xs.length : Int)), (8, vint (k : Int))] ∧ (k ≤ xs.length) ∧ (∀ i, i < k → decide (n = xs.getD i 0) = false) ∧ (w = wl)) (fun k => xs.length - k) 0 ?_ ?_)))))))))))))
 ·
  exact ⟨⟨rfl, rfl, rfl, rfl, trivial⟩, (Nat.zero_le _), (fun i hi => absurd hi (Nat.not_lt_zero _)), rfl⟩
 ·
  rintro k el1 wl1 ⟨hkn, hk, hno, rfl⟩ ih1
  obtain ⟨e1, rfl⟩ := knows_env hkn
  refine r_seq (r_region' (l_q (q_lss rfl rfl rfl) (l_nil (r_seq (r_cond rfl (fun hc2 => ?_) (fun hc2 => ?_))))))
  ·
   replace hc2 := dt hc2
   refine r_skip (r_seq (r_block (r_seq (r_region' (l_q (qmi rfl rfl) (l_q (qai rfl rfl) (l_nil (r_seq (r_region' (l_q (qmi rfl rfl) (l_q (qms rfl rfl) (l_q (qmi rfl rfl) ?_))))))))))))
   obtain ⟨b3, o3, ha3, hh3⟩ := (hx.below hB).at1 k ((xs).getD k 0) (getD_some (by omega))
   refine l_q (q_indexAddr1 Tryz.underlying25 Tryz.sizeOf3 rfl ha3 rfl (by omega) rfl) (l_q (q_load Tryz.isAgg3 rfl (hh3) rfl) (l_q (q_eql rfl rfl rfl) (l_nil (r_cond rfl (fun hc4 => ?_) (fun hc4 => ?_)))))
   ·
    replace hc4 := dt hc4
    refine r_seq (r_region' (l_q (qmi rfl rfl) (l_q (qai rfl rfl) (l_nil (r_forget [(4, .int _ _)] ⟨rfl, trivial⟩ (fun e5 => (r_ret_ (vs := [.int _ _]) rfl Tryz.func134 rfl (.nil _) ⟨rfl, trivial⟩ ?_)))))))
    exact ⟨vint_eq (idxI_found (by omega) (by simpa using (by assumption : n = xs.getD k 0)) hno).symm, rfl⟩
   ·
    replace hc4 := df hc4
    have hcneg := hc4
    refine r_skip (r_inBlock (r_region' (l_q (q_add rfl rfl (by omega) rfl) (l_q (qmi rfl rfl) (l_nil (r_forget [(0, .slice _ _ _), (1, .int _ _), (7, .int _ _), (8, .int _ _)] ⟨rfl, rfl, rfl, rfl, trivial⟩ (fun e6 => ?_)))))))
    exact ih1 (k + 1) _ _ ⟨⟨rfl, rfl, rfl, by first | rfl | exact vint_eq (by omega), trivial⟩, (by omega), (fun i hi => by rcases Nat.lt_succ_iff_lt_or_eq.1 hi with h | h; exact hno i h; subst h; simpa using hcneg), rfl⟩ (by first | omega | (dsimp only; omega))
  ·
   replace hc2 := dlt hc2
   refine r_exit rfl (r_seq (r_region' (l_q (qai rfl rfl) (l_nil (r_ret_ (vs := [.int _ _]) rfl Tryz.func134 rfl (.nil _) ⟨rfl, trivial⟩ ?_)))))
   exact ⟨vint_eq (idxI_none (fun i hi => hno i (by omega))).symm, rfl⟩
theorem contains_int_ret (xa : Option Addr) (xc : Nat) (xs : List Int) (n : Int) (w : World) (hx : Row w xa xs.length xc 1 (xs.map vint)) (hxn : xs.length ≤ 2097152) : Ret Tryz.prog 106 [.slice xa xs.length xc, vint n] w (fun v w' => v = .bool (hasI xs n) ∧ w = w') := by
 have hB := Below.refl w.heap.size w
 have hsz : w.heap.size ≤ w.heap.size := Nat.le_refl _
 refine ret_of_runs (args := [_, _]) Tryz.func106 rfl (Nat.le_of_ble_eq_true rfl) (by kernel_rfl) (r_seq (r_region' (l_q (qab rfl rfl) (l_nil (r_seq (r_region' (l_q (qms rfl rfl) (l_q (qmi rfl rfl) (l_o (o_call Tryz.call134 rfl (index_int_ret _ _ _ _ _ (hx.below hB) (by omega)) rfl ?_))))))))))
 rintro _ w1 ⟨rfl, rfl⟩
 refine l_q (q_geq rfl rfl rfl) (l_q (qab rfl rfl) (l_nil (r_ret_ (vs := [.bool _]) rfl Tryz.func106 rfl (.nil _) ⟨rfl, trivial⟩ ?_)))
 exact ⟨vbool_eq (by rw [idxI_nonneg, range_any xs 0 (fun x => decide (n = x)), any_has]), rfl⟩
theorem minimum6_ret (xa : Option Addr) (xc : Nat) (xs : List Int) (w : World) (hx : Row w xa xs.length xc 1 (xs.map vint)) (hxn : xs.length ≤ 2097152) (h0 : 0 < xs.length) : Ret Tryz.prog 107 [.slice xa xs.length xc] w (fun v w' => v = vint (minOf xs) ∧ Ext w w') := by
 have hB := Below.refl w.heap.size w
 have hsz : w.heap.size ≤ w.heap.size := Nat.le_refl _
 refine ret_of_runs (args := [_]) Tryz.func107 rfl (Nat.le_of_ble_eq_true rfl) (by kernel_rfl) (r_seq (r_region' (l_q (qai rfl rfl) (l_nil (r_seq (r_region' (l_q (qms rfl rfl) (l_o (o_call Tryz.call135 rfl (min_ret _ _ xs _ (hx.below hB) (by first | omega | simp) (by first | omega | simp)) rfl ?_)))))))))
 rintro _ w1 ⟨rfl, hE1⟩
 replace hB := below_ext hB hE1 hsz
 replace hsz := Nat.le_trans hsz hE1.size
 refine l_q (qai rfl rfl) (l_nil (r_ret_ (vs := [.int _ _]) rfl Tryz.func107 rfl (.nil _) ⟨rfl, trivial⟩ ?_))
 exact ⟨rfl, Ext.of_below hB⟩
theorem free6_ret (ka : Option Addr) (kc : Nat) (co : List Sg) (er : Int) (sa : Option Addr) (sc : Nat) (se : List Int) (ja : Option Addr) (jc : Nat) (sl : List SN) (ra : Option Addr) (rc : Nat) (rl : List RC) (wb m1 m2 : Nat) (R : List SV) (C : List (List Int)) (n b : Int) (u : List Bool) (w : World) (hwb : Blk w wb [.slice ka co.length kc, vint er, .slice sa se.length sc, .slice ja sl.length jc, .slice ra rl.length rc, .map (some m1), .map (some m2)]) (hWm : WkMaps w m1 m2 R C) (hu8 : u.length = 8) (hb7 : -1 ≤ b ∧ b ≤ 7) : Ret Tryz.prog 78 [ptr wb 0, vint n, vint b, .agg ⟨(u).map Value.bool⟩] w (fun v w' => v = .tuple ⟨[.agg ⟨(freeU C n b u).map Value.bool⟩, .bool (freeOk C n b u)]⟩ ∧ Ext w w') := by
 have hwbl := hwb.lt
 have hB := Below.refl w.heap.size w
 have hsz : w.heap.size ≤ w.heap.size := Nat.le_refl _
 refine ret_of_runs (args := [_, _, _, _]) Tryz.func78 rfl (Nat.le_of_ble_eq_true rfl) (by kernel_rfl) (r_seq (r_region' (l_o (o_box rfl rfl rfl ?_))))
 intro b1 w1 hzl1 hzr1 _ hb1 hE1
 have hne_wb_b1 : wb ≠ b1 := by have := hwb.lt; omega
 have hbs_b1 : w.heap.size ≤ b1 := Nat.le_trans hsz hzl1
 replace hB := below_ext hB hE1 hsz
 replace hsz := Nat.le_trans hsz hE1.size
 refine l_o (o_alloc Tryz.zeroValue106 rfl rfl ?_)
 intro b2 w2 hzl2 hzr2 _ hb2 hE2
 have hne_wb_b2 : wb ≠ b2 := by have := hwb.lt; omega
 have hne_b1_b2 : b1 ≠ b2 := by have := hb1.lt; omega
 have hbs_b2 : w.heap.size ≤ b2 := Nat.le_trans hsz hzl2
 replace hB := below_ext hB hE2 hsz
 replace hb1 := hb1.ext hE2
 replace hsz := Nat.le_trans hsz hE2.size
 refine l_q (qab rfl rfl) (l_nil (r_seq (r_seq (r_region' (l_q (q_move (v := .pointer _) rfl rfl) (l_q (q_nilCheck rfl rfl) (l_q (q_fieldAddr (o' := 6) rfl fld96_2 rfl) (l_q (q_load Tryz.isAgg94 rfl (((hwb.below hB (by omega)).has (o := 6) rfl)) rfl) (l_q (qmi rfl rfl) (l_q (qmi rfl rfl) (l_q (q_build (v := .agg ⟨[vint n, vint b]⟩) (fun w => by kernel_rfl) rfl) ?_)))))))))))
 obtain ⟨_, e1, c1, e2, ck2, hM1, hH1, hM2, hH2⟩ := id (hWm.below hB)
 refine l_q (q_look1 (v := .bool (canC C n b)) Tryz.underlying94 Tryz.zeroValue4 rfl rfl hM2 (fun em w => pairTy.key (n := 9998) _ _ w) (finds_pair (p := (n, b)) pairTy hH2) (canF_look hH2) rfl) (l_q (q_not rfl rfl) (l_q (qmb rfl rfl) (l_part 19 rfl (fun hc3 => ?_) (fun hc3 => ?_))))
 ·
  replace hc3 := nt hc3
  have g19 := hc3
  refine l_q (q_skip rfl) (l_q (q_skip rfl) (l_q (q_skip rfl) (l_q (q_skip rfl) (l_q (q_skip rfl) (l_q (q_skip rfl) (l_q (q_skip rfl) (l_q (q_pick_t (v := .bool _) rfl rfl rfl) (l_nil (r_forget [(2, .int _ _), (7, .pointer _), (8, .pointer _), (27, .bool _)] ⟨rfl, rfl, rfl, rfl, trivial⟩ (fun e4 => (r_cond_t rfl (r_seq (r_region' (l_q (q_load_agg (n := 8) Tryz.isAgg106 Tryz.sizeOf106 rfl ((hb1.cells0)) (by rw [List.length_map]; exact hu8) rfl) (l_o (o_store_all (cs' := (u).map Value.bool) Tryz.sizeOf106 rfl rfl hb2 (rfl) (by rw [List.length_map]; exact hu8) (all_one_map _ _ (fun _ => rfl)) rfl ?_))))))))))))))))
  intro w5 hz5 hb2 hG5
  replace hB := below_upd hB hG5 hsz (by omega)
  replace hsz : w.heap.size ≤ w5.heap.size := by rw [hz5]; exact hsz
  replace hb1 := hb1.upd hG5 (by omega)
  refine l_q (qab rfl rfl) (l_nil (r_ret_ (vs := [.agg _, .bool _]) rfl Tryz.func78 rfl (.nil _) ⟨⟨_, _, rfl, run_loadVarA Tryz.isAgg106 Tryz.sizeOf106 (hb2.cells0) (by rw [List.length_map]; exact hu8)⟩, rfl, trivial⟩ ?_))
  first
  | exact ⟨free_o0 (free_t1 g19), Ext.of_below hB⟩
  | exact ⟨free_o0 (free_t2 g22 g27), Ext.of_below hB⟩
  | exact absurd g30 g22
  | exact absurd g22 g30
  | exact ⟨free_o1 (free_t4 g19 g22) g22, Ext.of_below hB⟩
  | exact ⟨free_o2 (free_t3 g19 g22 g27) g22, Ext.of_below hB⟩
 ·
  replace hc3 := nf hc3
  have g19 := hc3
  refine l_q (qmi rfl rfl) (l_q (q_neq rfl rfl rfl) (l_q (qmb rfl rfl) (l_part 22 rfl (fun hc6 => ?_) (fun hc6 => ?_))))
  ·
   replace hc6 := df (nt hc6)
   have g22 := hc6
   refine l_q (qmi rfl rfl) (l_q ((q_indexAddr_arr1 Tryz.underlying106 Tryz.sizeOf4 rfl rfl (by omega) rfl).cast (ptr0 _ _)) (l_q (q_load Tryz.isAgg4 rfl ((hb1.has (bmap (show b.toNat < u.length by omega)))) rfl) (l_q (q_pick_t (v := .bool _) rfl rfl rfl) (l_q (q_pick_f (v := .bool _) rfl rfl rfl) (l_nil (r_forget [(2, .int _ _), (7, .pointer _), (8, .pointer _), (27, .bool _)] ⟨rfl, rfl, rfl, rfl, trivial⟩ (fun e7 => (r_cond rfl (fun hc8 => ?_) (fun hc8 => ?_)))))))))
   ·
    have g27 := hc8
    refine r_seq (r_region' (l_q (q_load_agg (n := 8) Tryz.isAgg106 Tryz.sizeOf106 rfl ((hb1.cells0)) (by rw [List.length_map]; exact hu8) rfl) (l_o (o_store_all (cs' := (u).map Value.bool) Tryz.sizeOf106 rfl rfl hb2 (rfl) (by rw [List.length_map]; exact hu8) (all_one_map _ _ (fun _ => rfl)) rfl ?_))))
    intro w9 hz9 hb2 hG9
    replace hB := below_upd hB hG9 hsz (by omega)
    replace hsz : w.heap.size ≤ w9.heap.size := by rw [hz9]; exact hsz
    replace hb1 := hb1.upd hG9 (by omega)
    refine l_q (qab rfl rfl) (l_nil (r_ret_ (vs := [.agg _, .bool _]) rfl Tryz.func78 rfl (.nil _) ⟨⟨_, _, rfl, run_loadVarA Tryz.isAgg106 Tryz.sizeOf106 (hb2.cells0) (by rw [List.length_map]; exact hu8)⟩, rfl, trivial⟩ ?_))
    first
    | exact ⟨free_o0 (free_t1 g19), Ext.of_below hB⟩
    | exact ⟨free_o0 (free_t2 g22 g27), Ext.of_below hB⟩
    | exact absurd g30 g22
    | exact absurd g22 g30
    | exact ⟨free_o1 (free_t4 g19 g22) g22, Ext.of_below hB⟩
    | exact ⟨free_o2 (free_t3 g19 g22 g27) g22, Ext.of_below hB⟩
   ·
    have g27 := hc8
    refine r_skip (r_seq (r_seq (r_region' (l_q (qmi rfl rfl) (l_q (q_neq rfl rfl rfl) (l_nil (r_cond rfl (fun hc10 => ?_) (fun hc10 => ?_))))))))
    ·
     replace hc10 := df (nt hc10)
     have g30 := hc10
     refine r_region' (l_q (qmi rfl rfl) (l_q ((q_indexAddr_arr1 Tryz.underlying106 Tryz.sizeOf4 rfl rfl (by omega) rfl).cast (ptr0 _ _)) (l_o (o_store1 Tryz.sizeOf4 rfl rfl rfl rfl hb1 (by rw [List.length_map]; omega) rfl ?_))))
     intro w11 hz11 hb1 hG11
     replace hB := below_upd hB hG11 hsz (by omega)
     replace hsz : w.heap.size ≤ w11.heap.size := by rw [hz11]; exact hsz
     replace hb2 := hb2.upd hG11 (by omega)
     refine l_nil (r_seq ?_)
     replace hb1 : Blk w11 b1 (((u).map Value.bool).set b.toNat (.bool true)) := hb1
     rw [bmap_set] at hb1
     refine r_region' (l_q (q_load_agg (n := 8) Tryz.isAgg106 Tryz.sizeOf106 rfl ((hb1.cells0)) (by rw [List.length_map, List.length_set]; exact hu8) rfl) (l_o (o_store_all (cs' := (u.set b.toNat true).map Value.bool) Tryz.sizeOf106 rfl rfl hb2 (rfl) (by rw [List.length_map, List.length_set]; exact hu8) (all_one_map _ _ (fun _ => rfl)) rfl ?_)))
     intro w12 hz12 hb2 hG12
     replace hB := below_upd hB hG12 hsz (by omega)
     replace hsz : w.heap.size ≤ w12.heap.size := by rw [hz12]; exact hsz
     replace hb1 := hb1.upd hG12 (by omega)
     refine l_q (qab rfl rfl) (l_nil (r_ret_ (vs := [.agg _, .bool _]) rfl Tryz.func78 rfl (.nil _) ⟨⟨_, _, rfl, run_loadVarA Tryz.isAgg106 Tryz.sizeOf106 (hb2.cells0) (by rw [List.length_map, List.length_set]; exact hu8)⟩, rfl, trivial⟩ ?_))
     first
     | exact ⟨free_o0 (free_t1 g19), Ext.of_below hB⟩
     | exact ⟨free_o0 (free_t2 g22 g27), Ext.of_below hB⟩
     | exact absurd g30 g22
     | exact absurd g22 g30
     | exact ⟨free_o1 (free_t4 g19 g22) g22, Ext.of_below hB⟩
     | exact ⟨free_o2 (free_t3 g19 g22 g27) g22, Ext.of_below hB⟩
    ·
     replace hc10 := dt (nf hc10)
     have g30 := hc10
     refine r_skip (r_seq (r_region' (l_q (q_load_agg (n := 8) Tryz.isAgg106 Tryz.sizeOf106 rfl ((hb1.cells0)) (by rw [List.length_map]; exact hu8) rfl) (l_o (o_store_all (cs' := (u).map Value.bool) Tryz.sizeOf106 rfl rfl hb2 (rfl) (by rw [List.length_map]; exact hu8) (all_one_map _ _ (fun _ => rfl)) rfl ?_)))))
     intro w13 hz13 hb2 hG13
     replace hB := below_upd hB hG13 hsz (by omega)
     replace hsz : w.heap.size ≤ w13.heap.size := by rw [hz13]; exact hsz
     replace hb1 := hb1.upd hG13 (by omega)
     refine l_q (qab rfl rfl) (l_nil (r_ret_ (vs := [.agg _, .bool _]) rfl Tryz.func78 rfl (.nil _) ⟨⟨_, _, rfl, run_loadVarA Tryz.isAgg106 Tryz.sizeOf106 (hb2.cells0) (by rw [List.length_map]; exact hu8)⟩, rfl, trivial⟩ ?_))
     first
     | exact ⟨free_o0 (free_t1 g19), Ext.of_below hB⟩
     | exact ⟨free_o0 (free_t2 g22 g27), Ext.of_below hB⟩
     | exact absurd g30 g22
     | exact absurd g22 g30
     | exact ⟨free_o1 (free_t4 g19 g22) g22, Ext.of_below hB⟩
     | exact ⟨free_o2 (free_t3 g19 g22 g27) g22, Ext.of_below hB⟩
  ·
   replace hc6 := dt (nf hc6)
   have g22 := hc6
   refine l_q (q_skip rfl) (l_q (q_skip rfl) (l_q (q_skip rfl) (l_q (q_pick_f (v := .bool _) rfl rfl rfl) (l_q (q_pick_f (v := .bool _) rfl rfl rfl) (l_nil (r_forget [(2, .int _ _), (7, .pointer _), (8, .pointer _), (27, .bool _)] ⟨rfl, rfl, rfl, rfl, trivial⟩ (fun e14 => (r_cond_f rfl (r_skip (r_seq (r_seq (r_region' (l_q (qmi rfl rfl) (l_q (q_neq rfl rfl rfl) (l_nil (r_cond rfl (fun hc15 => ?_) (fun hc15 => ?_)))))))))))))))))
   ·
    replace hc15 := df (nt hc15)
    have g30 := hc15
    refine r_region' (l_q (qmi rfl rfl) (l_q ((q_indexAddr_arr1 Tryz.underlying106 Tryz.sizeOf4 rfl rfl (by omega) rfl).cast (ptr0 _ _)) (l_o (o_store1 Tryz.sizeOf4 rfl rfl rfl rfl hb1 (by rw [List.length_map]; omega) rfl ?_))))
    intro w16 hz16 hb1 hG16
    replace hB := below_upd hB hG16 hsz (by omega)
    replace hsz : w.heap.size ≤ w16.heap.size := by rw [hz16]; exact hsz
    replace hb2 := hb2.upd hG16 (by omega)
    refine l_nil (r_seq ?_)
    replace hb1 : Blk w16 b1 (((u).map Value.bool).set b.toNat (.bool true)) := hb1
    rw [bmap_set] at hb1
    refine r_region' (l_q (q_load_agg (n := 8) Tryz.isAgg106 Tryz.sizeOf106 rfl ((hb1.cells0)) (by rw [List.length_map, List.length_set]; exact hu8) rfl) (l_o (o_store_all (cs' := (u.set b.toNat true).map Value.bool) Tryz.sizeOf106 rfl rfl hb2 (rfl) (by rw [List.length_map, List.length_set]; exact hu8) (all_one_map _ _ (fun _ => rfl)) rfl ?_)))
    intro w17 hz17 hb2 hG17
    replace hB := below_upd hB hG17 hsz (by omega)
    replace hsz : w.heap.size ≤ w17.heap.size := by rw [hz17]; exact hsz
    replace hb1 := hb1.upd hG17 (by omega)
    refine l_q (qab rfl rfl) (l_nil (r_ret_ (vs := [.agg _, .bool _]) rfl Tryz.func78 rfl (.nil _) ⟨⟨_, _, rfl, run_loadVarA Tryz.isAgg106 Tryz.sizeOf106 (hb2.cells0) (by rw [List.length_map, List.length_set]; exact hu8)⟩, rfl, trivial⟩ ?_))
    first
    | exact ⟨free_o0 (free_t1 g19), Ext.of_below hB⟩
    | exact ⟨free_o0 (free_t2 g22 g27), Ext.of_below hB⟩
    | exact absurd g30 g22
    | exact absurd g22 g30
    | exact ⟨free_o1 (free_t4 g19 g22) g22, Ext.of_below hB⟩
    | exact ⟨free_o2 (free_t3 g19 g22 g27) g22, Ext.of_below hB⟩
   ·
    replace hc15 := dt (nf hc15)
    have g30 := hc15
    refine r_skip (r_seq (r_region' (l_q (q_load_agg (n := 8) Tryz.isAgg106 Tryz.sizeOf106 rfl ((hb1.cells0)) (by rw [List.length_map]; exact hu8) rfl) (l_o (o_store_all (cs' := (u).map Value.bool) Tryz.sizeOf106 rfl rfl hb2 (rfl) (by rw [List.length_map]; exact hu8) (all_one_map _ _ (fun _ => rfl)) rfl ?_)))))
    intro w18 hz18 hb2 hG18
    replace hB := below_upd hB hG18 hsz (by omega)
    replace hsz : w.heap.size ≤ w18.heap.size := by rw [hz18]; exact hsz
    refine l_q (qab rfl rfl) (l_nil (r_ret_ (vs := [.agg _, .bool _]) rfl Tryz.func78 rfl (.nil _) ⟨⟨_, _, rfl, run_loadVarA Tryz.isAgg106 Tryz.sizeOf106 (hb2.cells0) (by rw [List.length_map]; exact hu8)⟩, rfl, trivial⟩ ?_))
    first
    | exact ⟨free_o0 (free_t1 g19), Ext.of_below hB⟩
    | exact ⟨free_o0 (free_t2 g22 g27), Ext.of_below hB⟩
    | exact absurd g30 g22
    | exact absurd g22 g30
    | exact ⟨free_o1 (free_t4 g19 g22) g22, Ext.of_below hB⟩
    | exact ⟨free_o2 (free_t3 g19 g22 g27) g22, Ext.of_below hB⟩
theorem few6_step (ka : Option Addr) (kc : Nat) (co : List Sg) (er : Int) (sa : Option Addr) (sc : Nat) (se : List Int) (ja : Option Addr) (jc : Nat) (sl : List SN) (ra : Option Addr) (rc : Nat) (rl : List RC) (wb m1 m2 : Nat) (R : List SV) (p : List Int) (u : List Bool) (k : Nat) (xa : Option Addr) (xc : Nat) (xs : List Int) (w : World) (hok : faultM (lg co er se sl rl) = 0) (hwb : Blk w wb [.slice ka co.length kc, vint er, .slice sa se.length sc, .slice ja sl.length jc, .slice ra rl.length rc, .map (some m1), .map (some m2)]) (hWm : WkMaps w m1 m2 R (rl.map (candL (lg co er se sl rl)))) (hpk : p.length + k = rl.length) (hub : UsedBy p u) (hx : Row w xa xs.length xc 1 (xs.map vint)) (hxn : xs.length ≤ 2097152) (ih : ∀ (k2 : Nat) (p2 : List Int) (u2 : List Bool) (w1 : World), k = k2 + 1 → p2.length + k2 = rl.length → UsedBy p2 u2 → Blk w1 wb [.slice ka co.length kc, vint er, .slice sa se.length sc, .slice ja sl.length jc, .slice ra rl.length rc, .map (some m1), .map (some m2)] → WkMaps w1 m1 m2 R (rl.map (candL (lg co er se sl rl))) → Row w1 xa xs.length xc 1 (xs.map vint) → Ret Tryz.prog 74 [ptr wb 0, vint (p2.length : Int), .agg ⟨u2.map Value.bool⟩, .slice xa xs.length xc] w1 (fun v w2 => v = vint (fewF (canB (lg co er se sl rl)) sl.length (outL xs) k2 p2) ∧ Ext w1 w2)) : Ret Tryz.prog 74 [ptr wb 0, vint (p.length : Int), .agg ⟨(u).map Value.bool⟩, .slice xa xs.length xc] w (fun v w' => v = vint (fewF (canB (lg co er se sl rl)) sl.length (outL xs) k p) ∧ Ext w w') := by
 have hwbl := hwb.lt
 obtain ⟨⟨hs1, hs4⟩, hj8, hr6, hf0, ⟨he0, he3⟩, hsr, hJn, hRn⟩ := lg_ok hok
 have hj8 : sl.length ≤ 8 := by have h : (lg co er se sl rl).J.length ≤ 8 := hj8; unfold lg at h; rwa [List.length_map] at h
 have hr6 : rl.length ≤ 6 := by have h : (lg co er se sl rl).R.length ≤ 6 := (by omega); exact h
 have hB := Below.refl w.heap.size w
 have hsz : w.heap.size ≤ w.heap.size := Nat.le_refl _
 refine ret_of_runs (args := [_, _, _, _]) Tryz.func74 rfl (Nat.le_of_ble_eq_true rfl) (by kernel_rfl) (r_seq (r_region' (l_o (o_box rfl rfl rfl ?_))))
 intro b1 w1 hzl1 hzr1 _ hb1 hE1
 have hne_wb_b1 : wb ≠ b1 := by have := hwb.lt; omega
 have hbs_b1 : w.heap.size ≤ b1 := Nat.le_trans hsz hzl1
 replace hB := below_ext hB hE1 hsz
 replace hsz := Nat.le_trans hsz hE1.size
 refine l_q (qai rfl rfl) (l_nil (r_seq (r_seq (r_region' (l_q (qmi rfl rfl) (l_q (q_move (v := .pointer _) rfl rfl) (l_q (q_nilCheck rfl rfl) (l_q (q_fieldAddr (o' := 0) rfl fld96_0 rfl) (l_q (q_fieldAddr (o' := 4) rfl fld38_4 rfl) (l_q (q_load Tryz.isAgg36 rfl (((hwb.below hB (by omega)).has (o := 4) rfl)) rfl) (l_q (q_len rfl Tryz.underlying36 rfl rfl) (l_q (q_eql rfl rfl rfl) (l_nil (r_cond rfl (fun hc2 => ?_) (fun hc2 => ?_)))))))))))))))
 ·
  replace hc2 := dt hc2
  have hk0 : k = 0 := by omega
  subst hk0
  refine r_seq (r_region' (l_q (qai rfl rfl) (l_nil (r_forget [(8, .int _ _)] ⟨rfl, trivial⟩ (fun e3 => (r_ret_ (vs := [.int _ _]) rfl Tryz.func74 rfl (.nil _) ⟨rfl, trivial⟩ ?_))))))
  exact ⟨rfl, Ext.of_below hB⟩
 ·
  replace hc2 := df hc2
  obtain ⟨k2, hk2⟩ : ∃ k2, k = k2 + 1 := ⟨k - 1, by omega⟩
  refine r_skip (r_seq (r_seq (r_region' (l_q (qms rfl rfl) (l_q (qmi rfl rfl) (l_o (o_call Tryz.call106 rfl (contains_int_ret _ _ _ _ _ (hx.below hB) (by omega)) rfl ?_)))))))
  rintro _ w4 ⟨rfl, rfl⟩
  refine l_nil (r_forget [(0, .pointer _), (1, .int _ _), (3, .slice _ _ _), (6, .pointer _), (24, .bool _)] ⟨rfl, rfl, rfl, rfl, rfl, trivial⟩ (fun e5 => (r_cond rfl (fun hc6 => ?_) (fun hc6 => ?_))))
  ·
   have g24 := hc6
   refine r_seq (r_region' (l_q (q_move (v := .pointer _) rfl rfl) (l_q (qmi rfl rfl) (l_q (q_add rfl rfl (by omega) rfl) (l_q (q_load_agg (n := 8) Tryz.isAgg106 Tryz.sizeOf106 rfl ((hb1.cells0)) (by rw [List.length_map]; exact hub.1) rfl) (l_q (qms rfl rfl) ?_))))))
   have hih := ih k2 (p ++ [-2]) u w1 hk2 (by simp only [List.length_append, List.length_cons, List.length_nil]; omega) (hub.neg (by omega)) (hwb.below hB hwbl) (hWm.below hB) (hx.below hB)
   have hcast : (((p ++ [(-2 : Int)]).length : Nat) : Int) = (p.length : Int) + 1 := by simp
   rw [hcast] at hih
   refine l_o (o_call Tryz.call74 rfl (hih) rfl ?_)
   rintro _ w7 ⟨rfl, hE7⟩
   replace hB := below_ext hB hE7 hsz
   replace hb1 := hb1.ext hE7
   replace hsz := Nat.le_trans hsz hE7.size
   have hfr := few_rng (can := (canB (lg co er se sl rl))) (m := sl.length) (out := outL xs) (k := k2) (p := p ++ [-2]) (by omega)
   refine l_q (qai rfl rfl) (l_nil (r_forget [(8, .int _ _)] ⟨rfl, trivial⟩ (fun e8 => (r_ret_ (vs := [.int _ _]) rfl Tryz.func74 rfl (.nil _) ⟨rfl, trivial⟩ ?_))))
   exact ⟨vint_eq (by rw [hk2, few_out1 g24]), Ext.of_below hB⟩
  ·
   have g24 := hc6
   refine r_skip (r_seq (r_region' (l_q (qai rfl rfl) (l_nil (r_seq (r_seq (r_region' (l_q (qai rfl rfl) (l_nil (r_block (r_rounds (α := Nat × Int) (fun ⟨i, x⟩ e wl => Knows e [(0, ptr wb 0), (1, vint (p.length : Int)), (3, .slice xa xs.length xc), (6, ptr b1 0), (9, vint x), (10, vint ((i : Int) - 1))] ∧ (i ≤ sl.length + 1) ∧ (x = fewG (canB (lg co er se sl rl)) sl.length (outL xs) k2 p i) ∧ (0 ≤ x ∧ x ≤ 1024) ∧ (Blk wl b1 ((u).map Value.bool)) ∧ (w.heap.size ≤ wl.heap.size) ∧ (Below w.heap.size w wl)) (fun ⟨i, x⟩ => sl.length + 1 - i) ⟨0, 1024⟩ ?_ ?_)))))))))))
   ·
    exact ⟨⟨rfl, rfl, rfl, rfl, rfl, rfl, trivial⟩, (by omega), rfl, (by omega), hb1, hsz, hB⟩
   ·
    rintro ⟨i, x⟩ el9 wl9 ⟨hkn, him1, hxG, hxr, hb1, hsz, hB⟩ ih9
    obtain ⟨e9, rfl⟩ := knows_env hkn
    refine r_seq (r_seq (r_region' (l_q (qmi rfl rfl) (l_q (q_move (v := .pointer _) rfl rfl) (l_q (q_nilCheck rfl rfl) (l_q (q_fieldAddr (o' := 0) rfl fld96_0 rfl) (l_q (q_fieldAddr (o' := 3) rfl fld38_3 rfl) (l_q (q_load Tryz.isAgg35 rfl (((hwb.below hB (by omega)).has (o := 3) rfl)) rfl) (l_q (q_len rfl Tryz.underlying35 rfl rfl) (l_q (q_lss rfl rfl rfl) (l_nil (r_cond rfl (fun hc10 => ?_) (fun hc10 => ?_)))))))))))))
    ·
     replace hc10 := dt hc10
     have him : i < sl.length + 1 := by omega
     have hst := free_step (l := (lg co er se sl rl)) (p := p) (u := u) (b := ((i : Int) - 1)) (show p.length < rl.length by omega) ⟨by omega, by unfold lg; rw [List.length_map]; omega⟩ (by unfold lg; rw [List.length_map]; omega) hub
     refine r_skip (r_seq (r_block (r_seq (r_region' (l_q (q_move (v := .pointer _) rfl rfl) (l_q (qmi rfl rfl) (l_q (qmi rfl rfl) (l_q (q_load_agg (n := 8) Tryz.isAgg106 Tryz.sizeOf106 rfl ((hb1.cells0)) (by rw [List.length_map]; exact hub.1) rfl) (l_o (o_call Tryz.call78 rfl (free6_ret ka kc co er sa sc se ja jc sl ra rc rl wb m1 m2 R (rl.map (candL (lg co er se sl rl))) (p.length : Int) ((i : Int) - 1) u _ (hwb.below hB hwbl) (hWm.below hB) hub.1 (by omega)) rfl ?_))))))))))
     rintro _ w11 ⟨rfl, hE11⟩
     replace hB := below_ext hB hE11 hsz
     replace hb1 := hb1.ext hE11
     replace hsz := Nat.le_trans hsz hE11.size
     refine l_q (q_move (v := .tuple _) rfl rfl) (l_q (q_extract (vs := [_, _]) (v := .agg _) rfl rfl rfl) (l_q (q_extract (vs := [_, _]) (v := .bool _) rfl rfl rfl) (l_o (o_alloc Tryz.zeroValue106 rfl rfl ?_))))
     intro b12 w12 hzl12 hzr12 _ hb12 hE12
     have hne_wb_b12 : wb ≠ b12 := by have := hwb.lt; omega
     have hne_b1_b12 : b1 ≠ b12 := by have := hb1.lt; omega
     have hbs_b12 : w.heap.size ≤ b12 := Nat.le_trans hsz hzl12
     replace hB := below_ext hB hE12 hsz
     replace hb1 := hb1.ext hE12
     replace hsz := Nat.le_trans hsz hE12.size
     refine l_o (o_store_all (cs' := (freeU (rl.map (candL (lg co er se sl rl))) (p.length : Int) ((i : Int) - 1) u).map Value.bool) Tryz.sizeOf106 rfl rfl hb12 (rfl) (by rw [List.length_map]; exact freeU_len hub.1) (all_one_map _ _ (fun _ => rfl)) rfl ?_)
     intro w13 hz13 hb12 hG13
     replace hB := below_upd hB hG13 hsz (by omega)
     replace hsz : w.heap.size ≤ w13.heap.size := by rw [hz13]; exact hsz
     replace hb1 := hb1.upd hG13 (by omega)
     refine l_q (qab rfl rfl) (l_nil (r_forget [(0, .pointer _), (1, .int _ _), (3, .slice _ _ _), (6, .pointer _), (9, .int _ _), (10, .int _ _), (11, .pointer _), (12, .bool _)] ⟨rfl, rfl, rfl, rfl, rfl, rfl, rfl, rfl, trivial⟩ (fun e14 => (r_seq (r_seq (r_region' (l_q (qmb rfl rfl) (l_q (q_not rfl rfl) (l_nil (r_cond rfl (fun hc15 => ?_) (fun hc15 => ?_)))))))))))
     ·
      replace hc15 := nt hc15
      have hfo : freeOk (rl.map (candL (lg co er se sl rl))) (p.length : Int) ((i : Int) - 1) u = false := by have := hc15; simpa using this
      have hsn : stepB (canB (lg co er se sl rl)) p ((i : Int) - 1) = false := hst.symm.trans hfo
      refine r_exit rfl (r_region' (l_q (qmi rfl rfl) (l_q (q_add rfl rfl (by omega) rfl) (l_q (qai rfl rfl) (l_nil ?_)))))
      exact ih9 ⟨i + 1, x⟩ _ _ ⟨⟨rfl, rfl, rfl, rfl, rfl, (vint_eq (by omega)), trivial⟩, (by omega), (fewG_no him hxG hsn), hxr, hb1, hsz, hB⟩ (by first | omega | (dsimp only; omega))
     ·
      replace hc15 := nf hc15
      have hfo : freeOk (rl.map (candL (lg co er se sl rl))) (p.length : Int) ((i : Int) - 1) u = true := by have := hc15; simpa using this
      have hsy : stepB (canB (lg co er se sl rl)) p ((i : Int) - 1) = true := hst.symm.trans hfo
      refine r_skip (r_seq (r_region' (l_q (q_move (v := .pointer _) rfl rfl) (l_q (qmi rfl rfl) (l_q (q_add rfl rfl (by omega) rfl) (l_q (q_load_agg (n := 8) Tryz.isAgg106 Tryz.sizeOf106 rfl ((hb12.cells0)) (by rw [List.length_map]; exact freeU_len hub.1) rfl) (l_q (qms rfl rfl) ?_)))))))
      have hih := ih k2 (p ++ [((i : Int) - 1)]) (freeU (rl.map (candL (lg co er se sl rl))) (p.length : Int) ((i : Int) - 1) u) w13 hk2 (by simp only [List.length_append, List.length_cons, List.length_nil]; omega) (free_used (by omega) hub hfo) (hwb.below hB hwbl) (hWm.below hB) (hx.below hB)
      have hcast : (((p ++ [(((i : Int) - 1) : Int)]).length : Nat) : Int) = (p.length : Int) + 1 := by simp
      rw [hcast] at hih
      refine l_o (o_call Tryz.call74 rfl (hih) rfl ?_)
      rintro _ w16 ⟨rfl, hE16⟩
      replace hB := below_ext hB hE16 hsz
      replace hb1 := hb1.ext hE16
      replace hb12 := hb12.ext hE16
      replace hsz := Nat.le_trans hsz hE16.size
      have hfr := few_rng (can := (canB (lg co er se sl rl))) (m := sl.length) (out := outL xs) (k := k2) (p := p ++ [((i : Int) - 1)]) (by omega)
      refine l_q (qai rfl rfl) (l_nil (r_forget [(0, .pointer _), (1, .int _ _), (3, .slice _ _ _), (6, .pointer _), (9, .int _ _), (10, .int _ _), (13, .int _ _)] ⟨rfl, rfl, rfl, rfl, rfl, rfl, rfl, trivial⟩ (fun e17 => (r_seq (r_seq (r_region' (l_q (qmi rfl rfl) (l_q (q_eql rfl rfl rfl) (l_nil (r_cond rfl (fun hc18 => ?_) (fun hc18 => ?_)))))))))))
      ·
       replace hc18 := dt hc18
       have g58 := hc18
       refine r_region' (l_q (qmi rfl rfl) (l_q (q_add rfl rfl (by omega) rfl) (l_q (qai rfl rfl) (l_nil (r_region' (l_q (qmi rfl rfl) (l_q (qmi rfl rfl) (l_o (o_buildSlice (el := 3) (cs := [vint x, vint ((fewF (canB (lg co er se sl rl)) sl.length (outL xs) k2 (p ++ [((i : Int) - 1)])) + 1)]) Tryz.underlying25 el3 (by decide) (by kernel_rfl) rfl (by decide) rfl ?_)))))))))
       intro b19 w19 hzl19 hzr19 _ hb19 hE19 ho19
       have hne_wb_b19 : wb ≠ b19 := by have := hwb.lt; omega
       have hne_b1_b19 : b1 ≠ b19 := by have := hb1.lt; omega
       have hne_b12_b19 : b12 ≠ b19 := by have := hb12.lt; omega
       have hbs_b19 : w.heap.size ≤ b19 := Nat.le_trans hsz hzl19
       replace hB := below_ext hB hE19 hsz
       replace hb1 := hb1.ext hE19
       replace hb12 := hb12.ext hE19
       replace hsz := Nat.le_trans hsz hE19.size
       refine l_o (o_call Tryz.call107 rfl (minimum6_ret _ _ [x, (fewF (canB (lg co er se sl rl)) sl.length (outL xs) k2 (p ++ [((i : Int) - 1)])) + 1] _ (Row.of_owns ho19) (by first | omega | simp) (by first | omega | simp)) rfl ?_)
       rintro _ w20 ⟨rfl, hE20⟩
       replace hB := below_ext hB hE20 hsz
       replace hb1 := hb1.ext hE20
       replace hb12 := hb12.ext hE20
       replace hsz := Nat.le_trans hsz hE20.size
       refine l_q (qai rfl rfl) (l_nil (r_inBlock (r_region' (l_q (qmi rfl rfl) (l_q (q_add rfl rfl (by omega) rfl) (l_q (qai rfl rfl) (l_nil (r_forget [(0, .pointer _), (1, .int _ _), (3, .slice _ _ _), (6, .pointer _), (9, .int _ _), (10, .int _ _)] ⟨rfl, rfl, rfl, rfl, rfl, rfl, trivial⟩ (fun e21 => ?_)))))))))
       exact ih9 ⟨i + 1, minOf [x, (fewF (canB (lg co er se sl rl)) sl.length (outL xs) k2 (p ++ [((i : Int) - 1)])) + 1]⟩ _ _ ⟨⟨rfl, rfl, rfl, rfl, rfl, (vint_eq (by omega)), trivial⟩, (by omega), (min_2 _ _ ▸ fewG_yes him hxG hsy (by rw [cost_1 g58])), (by rw [min_2]; omega), hb1, hsz, hB⟩ (by first | omega | (dsimp only; omega))
      ·
       replace hc18 := df hc18
       have g58 := hc18
       refine r_skip (r_region' (l_q (qmi rfl rfl) (l_q (qmi rfl rfl) (l_o (o_buildSlice (el := 3) (cs := [vint x, vint (fewF (canB (lg co er se sl rl)) sl.length (outL xs) k2 (p ++ [((i : Int) - 1)]))]) Tryz.underlying25 el3 (by decide) (by kernel_rfl) rfl (by decide) rfl ?_)))))
       intro b22 w22 hzl22 hzr22 _ hb22 hE22 ho22
       have hne_wb_b22 : wb ≠ b22 := by have := hwb.lt; omega
       have hne_b1_b22 : b1 ≠ b22 := by have := hb1.lt; omega
       have hne_b12_b22 : b12 ≠ b22 := by have := hb12.lt; omega
       have hbs_b22 : w.heap.size ≤ b22 := Nat.le_trans hsz hzl22
       replace hB := below_ext hB hE22 hsz
       replace hb1 := hb1.ext hE22
       replace hsz := Nat.le_trans hsz hE22.size
       refine l_o (o_call Tryz.call107 rfl (minimum6_ret _ _ [x, fewF (canB (lg co er se sl rl)) sl.length (outL xs) k2 (p ++ [((i : Int) - 1)])] _ (Row.of_owns ho22) (by first | omega | simp) (by first | omega | simp)) rfl ?_)
       rintro _ w23 ⟨rfl, hE23⟩
       replace hB := below_ext hB hE23 hsz
       replace hb1 := hb1.ext hE23
       replace hsz := Nat.le_trans hsz hE23.size
       refine l_q (qai rfl rfl) (l_nil (r_inBlock (r_region' (l_q (qmi rfl rfl) (l_q (q_add rfl rfl (by omega) rfl) (l_q (qai rfl rfl) (l_nil ?_)))))))
       exact ih9 ⟨i + 1, minOf [x, fewF (canB (lg co er se sl rl)) sl.length (outL xs) k2 (p ++ [((i : Int) - 1)])]⟩ _ _ ⟨⟨rfl, rfl, rfl, rfl, rfl, (vint_eq (by omega)), trivial⟩, (by omega), (min_2 _ _ ▸ fewG_yes him hxG hsy (by rw [cost_0 g58]; omega)), (by rw [min_2]; omega), hb1, hsz, hB⟩ (by first | omega | (dsimp only; omega))
    ·
     replace hc10 := dlt hc10
     refine r_exit rfl (r_seq (r_region' (l_q (qmi rfl rfl) (l_q (qai rfl rfl) (l_nil (r_forget [(8, .int _ _)] ⟨rfl, trivial⟩ (fun e24 => (r_ret_ (vs := [.int _ _]) rfl Tryz.func74 rfl (.nil _) ⟨rfl, trivial⟩ ?_))))))))
     exact ⟨vint_eq (by rw [hxG, fewG_all (by omega) g24, hk2]), Ext.of_below hB⟩
theorem few6_ret (ka : Option Addr) (kc : Nat) (co : List Sg) (er : Int) (sa : Option Addr) (sc : Nat) (se : List Int) (ja : Option Addr) (jc : Nat) (sl : List SN) (ra : Option Addr) (rc : Nat) (rl : List RC) (wb m1 m2 : Nat) (R : List SV) (xa : Option Addr) (xc : Nat) (xs : List Int) (hok : faultM (lg co er se sl rl) = 0) (hxn : xs.length ≤ 2097152) : ∀ (k : Nat) (p : List Int) (u : List Bool) (w : World), Blk w wb [.slice ka co.length kc, vint er, .slice sa se.length sc, .slice ja sl.length jc, .slice ra rl.length rc, .map (some m1), .map (some m2)] → WkMaps w m1 m2 R (rl.map (candL (lg co er se sl rl))) → p.length + k = rl.length → UsedBy p u → Row w xa xs.length xc 1 (xs.map vint) → Ret Tryz.prog 74 [ptr wb 0, vint (p.length : Int), .agg ⟨u.map Value.bool⟩, .slice xa xs.length xc] w (fun v w2 => v = vint (fewF (canB (lg co er se sl rl)) sl.length (outL xs) k p) ∧ Ext w w2)
  | 0, p, u, w, hwb, hWm, hpk, hub, hx => few6_step ka kc co er sa sc se ja jc sl ra rc rl wb m1 m2 R p u 0 xa xc xs w hok hwb hWm hpk hub hx hxn (fun k2 p2 u2 w1 h => by omega)
  | k + 1, p, u, w, hwb, hWm, hpk, hub, hx => few6_step ka kc co er sa sc se ja jc sl ra rc rl wb m1 m2 R p u (k + 1) xa xc xs w hok hwb hWm hpk hub hx hxn (fun k2 p2 u2 w1 h h2 h3 h4 h5 h6 => by
    have e : k2 = k := by omega
    subst e
    exact few6_ret ka kc co er sa sc se ja jc sl ra rc rl wb m1 m2 R xa xc xs hok hxn k2 p2 u2 w1 h4 h5 h2 h3 h6)
end Go.Proofs.YtekkdhpgcilpdaaGreat
