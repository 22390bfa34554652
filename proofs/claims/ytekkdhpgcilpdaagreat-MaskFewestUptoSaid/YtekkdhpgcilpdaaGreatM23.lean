/- Contracts. -/
import Derived.Test.YtekkdhpgcilpdaaGreatM22
import Derived.Test.YtekkdhpgcilpdaaGreatM13
set_option linter.unusedVariables false
set_option linter.unusedSimpArgs false
namespace Go.Proofs.YtekkdhpgcilpdaaGreat
open Go Go.RowKit Go.Gv Go.Fl
/-! ### The reference: texts put in order -/
def putS (t : List Int) (a : List (List Int) × Bool) (x : List Int) : List (List Int) × Bool := if (!a.2 && decide (cmpV t x < 0)) = true then (a.1 ++ [t] ++ [x], true) else (a.1 ++ [x], a.2)
def putK (t : List Int) (l : List (List Int)) (k : Nat) : List (List Int) × Bool := (l.take k).foldl (putS t) ([], false)
section
variable {t x : List Int} {l A : List (List Int)} {k : Nat} {p : Bool}
theorem putK_succ (h : k < l.length) : putK t l (k + 1) = putS t (putK t l k) (l.getD k []) := by
  unfold putK
  rw [take_sg (d := []) h, List.foldl_append]; rfl
theorem putS_1 (h1 : p = false) (h2 : cmpV t x < 0) : putS t (A, p) x = (A ++ [t] ++ [x], true) := by unfold putS; rw [h1, decide_eq_true h2]; rfl
theorem putS_2 (h : p = true) : putS t (A, p) x = (A ++ [x], p) := by unfold putS; rw [h]; rfl
theorem putS_3 (h2 : ¬ cmpV t x < 0) : putS t (A, p) x = (A ++ [x], p) := by unfold putS; rw [decide_eq_false h2, Bool.and_false]; rfl
theorem lex_dec : decide (cmpV t x < 0) = lexLt t x := by
  rw [Bool.eq_iff_iff, decide_eq_true_eq, lex_cmp]
theorem put_true : ∀ {l A : List (List Int)}, l.foldl (putS t) (A, true) = (A ++ l, true)
  | [], A => by rw [List.append_nil]; rfl
  | x :: l, A => by rw [List.foldl_cons, putS_2 rfl, put_true, List.append_assoc]; rfl
theorem put_false : ∀ {l A : List (List Int)}, (let r := l.foldl (putS t) (A, false); if r.2 = true then r.1 else r.1 ++ [t]) = A ++ (l.takeWhile (fun x => !lexLt t x) ++ t :: l.dropWhile (fun x => !lexLt t x))
  | [], A => rfl
  | x :: l, A => by
    rw [List.foldl_cons]
    by_cases h : cmpV t x < 0
    · have h1 : lexLt t x = true := by rw [← lex_dec]; exact decide_eq_true h
      rw [putS_1 rfl h, put_true, List.takeWhile_cons, List.dropWhile_cons, h1]
      simp
    · have h1 : lexLt t x = false := by rw [← lex_dec]; exact decide_eq_false h
      rw [putS_3 h, List.takeWhile_cons, List.dropWhile_cons, h1]
      have h2 := put_false (l := l) (A := A ++ [x])
      dsimp only at h2 ⊢
      rw [h2]
      simp
theorem put_in (hk : k < l.length) (h : l.getD k [] = t) : l = putA t l := by
  unfold putA
  rw [if_pos (by rw [List.contains_iff_mem, ← h]; exact getD_lt hk)]
theorem put_not (h : ∀ j, j < l.length → ¬ l.getD j [] = t) : l.contains t = false := by
  rw [← Bool.not_eq_true, List.contains_iff_mem]
  intro hm
  obtain ⟨j, hj, he⟩ := List.mem_iff_getElem.1 hm
  exact h j hj (by rw [List.getD_eq_getElem?_getD, List.getElem?_eq_getElem hj]; exact he)
theorem put_end (h : ∀ j, j < l.length → ¬ l.getD j [] = t) : putA t l = if (putK t l l.length).2 = true then (putK t l l.length).1 else (putK t l l.length).1 ++ [t] := by
  have h1 := put_false (t := t) (l := l) (A := [])
  unfold putA putK
  rw [if_neg (by rw [put_not h]; decide), List.take_length]
  rw [List.nil_append] at h1
  exact h1.symm
end
/-- the texts of a length, as far as they are gone through -/
def pairK (sl : List SN) (n i f : Nat) : List (List Int) := (sl.take i).flatMap (fun s => (List.range (s.xs.length + 1 - n)).map (fun fr => subOf s.xs fr n)) ++ (List.range f).map (fun fr => subOf (sl.getD i sn00).xs fr n)
def lvK (l : Lg) (sl : List SN) (b : Int) (n i f : Nat) : List (List Int) := ((pairK sl n i f).filter (fun t => canS l t b)).foldl (fun a t => putA t a) []
section
variable {co : List Sg} {er : Int} {se : List Int} {sl : List SN} {rl : List RC} {b : Int} {n i f : Nat} {l : Lg}
theorem pair_f : pairK sl n i (f + 1) = pairK sl n i f ++ [subOf (sl.getD i sn00).xs f n] := by
  unfold pairK
  rw [List.range_succ, List.map_append, ← List.append_assoc]; rfl
theorem pair_i (hi : i < sl.length) (hf : f = (sl.getD i sn00).xs.length + 1 - n) : pairK sl n i f = pairK sl n (i + 1) 0 := by
  unfold pairK
  rw [take_sg (d := sn00) hi, List.flatMap_append, List.flatMap_cons, List.flatMap_nil, hf, List.append_nil]
  rw [List.range_zero, List.map_nil, List.append_nil]
theorem lv_yes (h : canS l (subOf (sl.getD i sn00).xs f n) b = true) : lvK l sl b n i (f + 1) = putA (subOf (sl.getD i sn00).xs f n) (lvK l sl b n i f) := by
  unfold lvK
  rw [pair_f, List.filter_append, List.filter_cons, if_pos h, List.foldl_append]; rfl
theorem lv_no (h : canS l (subOf (sl.getD i sn00).xs f n) b = false) : lvK l sl b n i (f + 1) = lvK l sl b n i f := by
  unfold lvK
  rw [pair_f, List.filter_append, List.filter_cons, if_neg (by rw [h]; decide)]
  simp
theorem lv_next (hi : i < sl.length) (hf : f = (sl.getD i sn00).xs.length + 1 - n) : lvK l sl b n i f = lvK l sl b n (i + 1) 0 := by unfold lvK; rw [pair_i hi hf]
theorem lv_zero : lvK l sl b n 0 0 = [] := by unfold lvK pairK; simp
theorem lv_end : lvK (lg co er se sl rl) sl b n sl.length 0 = levelM (lg co er se sl rl) b n := by
  unfold lvK levelM pairK pairsM lg
  rw [List.take_length, List.range_zero, List.map_nil, List.append_nil, List.flatMap_map]; rfl
theorem heardK_succ : heardK l b (n + 1) = heardK l b n ++ levelM l b (n + 1) := by
  unfold heardK
  rw [List.range_succ, List.flatMap_append]; simp
theorem putA_len {t : List Int} {A : List (List Int)} : (putA t A).length ≤ A.length + 1 := by
  unfold putA
  split
  · omega
  · have := congrArg List.length (List.takeWhile_append_dropWhile (p := fun x => !lexLt t x) (l := A))
    rw [List.length_append] at this ⊢
    rw [List.length_cons]
    omega
theorem fold_put_len : ∀ {ts A : List (List Int)}, (ts.foldl (fun a t => putA t a) A).length ≤ A.length + ts.length
  | [], A => by simp
  | t :: ts, A => by
    rw [List.foldl_cons, List.length_cons]
    have h1 := fold_put_len (ts := ts) (A := putA t A)
    have h2 := putA_len (t := t) (A := A)
    omega
theorem lv_len (hj8 : sl.length ≤ 8) (hx5 : ∀ s ∈ sl, s.xs.length ≤ 5) (hf : f ≤ 6) : (lvK l sl b n i f).length ≤ 60 := by
  have h1 := fold_put_len (ts := (pairK sl n i f).filter (fun t => canS l t b)) (A := [])
  have h2 := List.length_filter_le (fun t => canS l t b) (pairK sl n i f)
  have h3 : (pairK sl n i f).length ≤ 54 := by
    have h4 := flat_le (f := fun s : SN => (List.range (s.xs.length + 1 - n)).map (fun fr => subOf s.xs fr n)) (B := 6) (l := sl.take i) (fun s hs => by
      rw [List.length_map, List.length_range]
      have := hx5 s (List.mem_of_mem_take hs)
      omega)
    have h5 : (sl.take i).length ≤ 8 := by rw [List.length_take]; omega
    unfold pairK
    rw [List.length_append, List.length_map, List.length_range]
    omega
  unfold lvK
  rw [List.length_nil] at h1
  omega
/-- what the reference's CanSend asks, as far as it is gone through -/
def canK (se : List Int) (sl : List SN) (t : List Int) (b : Int) (k : Nat) : Prop := ∀ j, j < k → (heardB se (sl.getD j sn00).pn b && partB t (sl.getD j sn00).xs) = false
theorem can_yes {t : List Int} {k : Nat} (hk : k < sl.length) (h1 : heardB se (sl.getD k sn00).pn b = true) (h2 : partB t (sl.getD k sn00).xs = true) : canS (lg co er se sl rl) t b = true := by
  unfold canS lg
  rw [List.any_eq_true]
  exact ⟨(sl.getD k sn00).pn, List.mem_map.2 ⟨_, getD_lt hk, rfl⟩, by rw [h1]; exact h2⟩
theorem can_no {t : List Int} (h : canK se sl t b sl.length) : canS (lg co er se sl rl) t b = false := by
  unfold canS lg
  rw [List.any_eq_false]
  intro x hx
  obtain ⟨y, hy, rfl⟩ := List.mem_map.1 hx
  obtain ⟨j, hj, he⟩ := List.mem_iff_getElem.1 hy
  have h1 := h j hj
  rw [List.getD_eq_getElem?_getD, List.getElem?_eq_getElem hj] at h1
  have h2 : (heardB se sl[j].pn b && partB t sl[j].xs) = false := h1
  rw [he] at h2
  show ¬ (heardB se y.pn b && partB t y.xs) = true
  rw [h2]; decide
theorem hear_1 {s : SN} (h : ¬ 0 ≤ se.getD s.st.toNat 0) (hr : -1 ≤ se.getD s.st.toNat 0) : heardB se s.pn b = false := by
  unfold heardB SN.pn
  rw [decide_eq_true (show se.getD s.st.toNat 0 = -1 by omega)]; rfl
theorem hear_2 {s : SN} (h : ¬ (se.getD s.st.toNat 0 ≤ s.h ∧ s.h < b)) : heardB se s.pn b = false := by
  unfold heardB SN.pn
  dsimp only
  rw [← Bool.decide_and, decide_eq_false h, Bool.and_false]
theorem hear_3 {s : SN} (h0 : 0 ≤ se.getD s.st.toNat 0) (h : se.getD s.st.toNat 0 ≤ s.h ∧ s.h < b) : heardB se s.pn b = true := by
  unfold heardB SN.pn
  dsimp only
  rw [← Bool.decide_and, decide_eq_true h, decide_eq_false (show ¬ se.getD s.st.toNat 0 = -1 by omega)]; rfl
end
/-- the reference's first text -/
def rmaskK (l : Lg) (r : RC) (D : List (List Int)) (k : Nat) : Prop := ∀ j, j < k → readsB l (D.getD j []) r.s = false
section
variable {l : Lg} {r : RC} {k : Nat} {D : List SV} {n : Nat}
theorem rmask_yes (hD : D.map (·.xs) = textsL l r.h) (hk : k < D.length) (hn : rmaskK l r (D.map (·.xs)) k) (h : readsB l (D.getD k sv0).xs r.s = true) : maskO l r = some (D.getD k sv0).xs := by
  unfold maskO
  rw [← hD, List.find?_eq_some_iff_getElem]
  have g : ∀ j (hj : j < (D.map (·.xs)).length), (D.map (·.xs))[j] = (D.map (·.xs)).getD j [] := fun j hj => by rw [List.getD_eq_getElem?_getD, List.getElem?_eq_getElem hj]; rfl
  refine ⟨h, k, by rw [List.length_map]; exact hk, by rw [g, svx_getD], fun j hj => ?_⟩
  rw [g, hn j hj]; rfl
theorem rmask_none (hD : D.map (·.xs) = textsL l r.h) (hn : rmaskK l r (D.map (·.xs)) D.length) : maskO l r = none := by
  unfold maskO
  rw [← hD, List.find?_eq_none]
  intro x hx
  obtain ⟨j, hj, rfl⟩ := List.mem_iff_getElem.1 hx
  have h1 := hn j (by rwa [List.length_map] at hj)
  rw [List.getD_eq_getElem?_getD, List.getElem?_eq_getElem hj] at h1
  have h2 : readsB l (D.map (·.xs))[j] r.s = false := h1
  rw [h2]; decide
end
section
variable {l : Lg} {b m : Int}
theorem put_fin {t : List Int} {L : List SV} {k : Nat} {A : List (List Int)} {p : Bool} (h : ∀ j, j < k → ¬ (L.getD j sv0).xs = t) (hk : k = L.length) (hM : putK t (L.map (·.xs)) k = (A, p)) : putA t (L.map (·.xs)) = if p = true then A else A ++ [t] := by
  have e : (L.map (·.xs)).length = k := by rw [List.length_map, hk]
  rw [put_end (fun j hj => by rw [svx_getD]; exact h j (by omega)), e, hM]
end
theorem rowsI_app {w : World} {A B : List SV} (h1 : RowsI w A) (h2 : RowsI w B) : RowsI w (A ++ B) := fun s hs => (List.mem_append.1 hs).elim (h1 s) (h2 s)

theorem canSend6_ret (ka : Option Addr) (kc : Nat) (co : List Sg) (er : Int) (sa : Option Addr) (sc : Nat) (se : List Int) (ja : Option Addr) (jc : Nat) (sl : List SN) (ra : Option Addr) (rc : Nat) (rl : List RC) (xa : Option Addr) (xc : Nat) (xs : List Int) (bf : Int) (w : World) (hlg : LgAt w ka kc co sa sc se ja jc sl ra rc rl) (hbg : LgBig co er se sl rl) (hx : Row w xa xs.length xc 1 (xs.map vint)) (hxn : xs.length ≤ 2097152) (hok : faultM (lg co er se sl rl) = 0) : Ret Tryz.prog 70 [.agg ⟨[.slice ka co.length kc, vint er, .slice sa se.length sc, .slice ja sl.length jc, .slice ra rl.length rc]⟩, .slice xa xs.length xc, vint bf] w (fun v w' => v = .bool (canS (lg co er se sl rl) xs bf) ∧ Ext w w') := by
 obtain ⟨⟨hcn, hcl⟩, hen, hsn, ⟨hjn, hjl⟩, hrn, hrl⟩ := id hbg
 obtain ⟨⟨hs1, hs4⟩, hj8, hr6, hf0, ⟨he0, he3⟩, hsr, hJn, hRn⟩ := lg_ok hok
 have hB := Below.refl w.heap.size w
 have hsz : w.heap.size ≤ w.heap.size := Nat.le_refl _
 refine ret_of_runs (args := [_, _, _]) Tryz.func70 rfl (Nat.le_of_ble_eq_true rfl) (by kernel_rfl) (r_seq (r_region' (l_o (o_box rfl rfl rfl ?_))))
 intro b1 w1 hzl1 hzr1 _ hb1 hE1
 have hbs_b1 : w.heap.size ≤ b1 := Nat.le_trans hsz hzl1
 replace hB := below_ext hB hE1 hsz
 replace hsz := Nat.le_trans hsz hE1.size
 refine l_q (qab rfl rfl) (l_nil (r_seq (r_seq (r_region' (l_q (qai rfl rfl) (l_nil (r_block (r_rounds (α := Nat) (fun k e wl => Knows e [(1, .slice xa xs.length xc), (2, vint bf), (3, ptr b1 0), (7, vint (k : Int))] ∧ (k ≤ sl.length) ∧ (canK se sl xs bf k) ∧ (Blk wl b1 [.slice ka co.length kc, vint er, .slice sa se.length sc, .slice ja sl.length jc, .slice ra rl.length rc]) ∧ (w.heap.size ≤ wl.heap.size) ∧ (Below w.heap.size w wl)) (fun k => sl.length - k) 0 ?_ ?_))))))))
 ·
  exact ⟨⟨rfl, rfl, rfl, rfl, trivial⟩, (Nat.zero_le _), (fun i hi => absurd hi (Nat.not_lt_zero _)), hb1, hsz, hB⟩
 ·
  rintro k el2 wl2 ⟨hkn, hkk, hno, hb1, hsz, hB⟩ ih2
  obtain ⟨e2, rfl⟩ := knows_env hkn
  refine r_seq (r_seq (r_region' (l_q (qmi rfl rfl) (l_q (q_fieldAddr (o' := 3) rfl fld29_3 rfl) (l_q (q_load Tryz.isAgg26 rfl ((hb1.has (o := 3) rfl)) rfl) (l_q (q_len rfl Tryz.underlying26 rfl rfl) (l_q (q_lss rfl rfl rfl) (l_nil (r_cond rfl (fun hc3 => ?_) (fun hc3 => ?_))))))))))
  ·
   replace hc3 := dt hc3
   have hks : k < sl.length := by omega
   have hjx := hjl _ (getD_lt (d := sn00) hks)
   have hsx := sn_of hJn hks
   have hse : -1 ≤ se.getD (sl.getD k sn00).st.toNat 0 ∧ se.getD (sl.getD k sn00).st.toNat 0 ≤ 23 := hsr _ (getD_lt (d := 0) (show (sl.getD k sn00).st.toNat < se.length by omega))
   refine r_skip (r_seq (r_block (r_seq (r_region' (l_q (q_fieldAddr (o' := 3) rfl fld29_3 rfl) (l_q (q_load Tryz.isAgg26 rfl ((hb1.has (o := 3) rfl)) rfl) (l_q (qmi rfl rfl) ?_)))))))
   obtain ⟨b4, o4, ha4, hh4⟩ := (hlg.rsl.below hB).at (by decide) k (by omega)
   refine l_q (q_indexAddr Tryz.underlying26 Tryz.sizeOf69 rfl ha4 rfl (by omega) rfl) (l_q (q_load_agg (cs := [vint (((sl).getD k sn00).h), vint (((sl).getD k sn00).st), .slice (((sl).getD k sn00).a) (((sl).getD k sn00).xs.length) (((sl).getD k sn00).c)]) (n := 3) Tryz.isAgg69 Tryz.sizeOf69 rfl ((cells_cast (wide_at SN.len sn00 _ _ (by omega)) hh4)) rfl rfl) (l_o (o_alloc Tryz.zeroValue69 rfl rfl ?_)))
   intro b5 w5 hzl5 hzr5 _ hb5 hE5
   have hne_b1_b5 : b1 ≠ b5 := by have := hb1.lt; omega
   have hbs_b5 : w.heap.size ≤ b5 := Nat.le_trans hsz hzl5
   replace hB := below_ext hB hE5 hsz
   replace hb1 := hb1.ext hE5
   replace hsz := Nat.le_trans hsz hE5.size
   refine l_o (o_store (vs := [vint (((sl).getD k sn00).h), vint (((sl).getD k sn00).st), .slice (((sl).getD k sn00).a) (((sl).getD k sn00).xs.length) (((sl).getD k sn00).c)]) (cs' := [vint (((sl).getD k sn00).h), vint (((sl).getD k sn00).st), .slice (((sl).getD k sn00).a) (((sl).getD k sn00).xs.length) (((sl).getD k sn00).c)]) Tryz.sizeOf69 rfl rfl rfl rfl hb5 (Nat.le_of_ble_eq_true rfl) rfl rfl ?_)
   intro w6 hz6 hb5 hG6
   replace hB := below_upd hB hG6 hsz (by omega)
   replace hsz : w.heap.size ≤ w6.heap.size := by rw [hz6]; exact hsz
   replace hb1 := hb1.upd hG6 (by omega)
   refine l_nil (r_forget [(1, .slice _ _ _), (2, .int _ _), (3, .pointer _), (7, .int _ _), (8, .pointer _)] ⟨rfl, rfl, rfl, rfl, rfl, trivial⟩ (fun e7 => (r_seq (r_region' (l_q (q_fieldAddr (o' := 2) rfl fld29_2 rfl) (l_q (q_load Tryz.isAgg25 rfl ((hb1.has (o := 2) rfl)) rfl) (l_q (q_fieldAddr (o' := 1) rfl fld69_1 rfl) (l_q (q_load Tryz.isAgg3 rfl ((hb5.has (o := 1) rfl)) rfl) ?_))))))))
   obtain ⟨b8, o8, ha8, hh8⟩ := (hlg.rse.below hB).at1 (((sl).getD k sn00).st).toNat ((se).getD (((sl).getD k sn00).st).toNat 0) (getD_some (by omega))
   refine l_q (q_indexAddr1 Tryz.underlying25 Tryz.sizeOf3 rfl ha8 rfl (by omega) rfl) (l_q (q_load Tryz.isAgg3 rfl (hh8) rfl) (l_q (qai rfl rfl) (l_nil (r_seq (r_region' (l_q (qmi rfl rfl) (l_q (q_geq rfl rfl rfl) (l_q (qmb rfl rfl) (l_part 30 rfl (fun hc9 => ?_) (fun hc9 => ?_))))))))))
   ·
    replace hc9 := dt hc9
    have g30 := hc9
    refine l_q (qmi rfl rfl) (l_q (q_fieldAddr (o' := 0) rfl fld69_0 rfl) (l_q (q_load Tryz.isAgg3 rfl ((hb5.has (o := 0) rfl)) rfl) (l_q (q_leq rfl rfl rfl) (l_q (q_pick_t (v := .bool _) rfl rfl rfl) (l_q (qmb rfl rfl) (l_part 36 rfl (fun hc10 => ?_) (fun hc10 => ?_)))))))
    ·
     replace hc10 := dt hc10
     have g36 := hc10
     refine l_q (q_fieldAddr (o' := 0) rfl fld69_0 rfl) (l_q (q_load Tryz.isAgg3 rfl ((hb5.has (o := 0) rfl)) rfl) (l_q (qmi rfl rfl) (l_q (q_lss rfl rfl rfl) (l_q (q_pick_t (v := .bool _) rfl rfl rfl) (l_q (qmb rfl rfl) (l_part 42 rfl (fun hc11 => ?_) (fun hc11 => ?_)))))))
     ·
      replace hc11 := dt hc11
      have g42 := hc11
      refine l_q (qms rfl rfl) (l_q (q_fieldAddr (o' := 2) rfl fld69_2 rfl) (l_q (q_load Tryz.isAgg25 rfl ((hb5.has (o := 2) rfl)) rfl) (l_o (o_call Tryz.call44 rfl (isPart6_ret _ _ xs _ _ (((sl).getD k sn00).xs) _ (hx.below hB) (by omega) ((RowsS.get (hlg.rslr) (i := k) (by omega)).below hB) (by omega)) rfl ?_))))
      rintro _ w12 ⟨rfl, hE12⟩
      replace hB := below_ext hB hE12 hsz
      replace hb1 := hb1.ext hE12
      replace hsz := Nat.le_trans hsz hE12.size
      refine l_q (q_pick_t (v := .bool _) rfl rfl rfl) (l_nil (r_forget [(1, .slice _ _ _), (2, .int _ _), (3, .pointer _), (7, .int _ _), (47, .bool _)] ⟨rfl, rfl, rfl, rfl, rfl, trivial⟩ (fun e13 => (r_cond rfl (fun hc14 => ?_) (fun hc14 => ?_)))))
      ·
       have g47 := hc14
       refine r_seq (r_region' (l_q (qab rfl rfl) (l_nil (r_ret_ (vs := [.bool _]) rfl Tryz.func70 rfl (.nil _) ⟨rfl, trivial⟩ ?_))))
       exact ⟨vbool_eq (can_yes hks (hear_3 (by omega) (by omega)) g47).symm, Ext.of_below hB⟩
      ·
       have g47 := hc14
       refine r_skip (r_inBlock (r_region' (l_q (qmi rfl rfl) (l_q (q_add rfl rfl (by omega) rfl) (l_q (qai rfl rfl) (l_nil ?_))))))
       exact ih2 (k + 1) _ _ ⟨⟨rfl, rfl, rfl, (vint_eq (by omega)), trivial⟩, (by omega), (fun j hj => by rcases Nat.lt_succ_iff_lt_or_eq.1 hj with h | h; exact hno j h; subst h; rw [g47, Bool.and_false]), hb1, hsz, hB⟩ (by first | omega | (dsimp only; omega))
     ·
      replace hc11 := dlt hc11
      have g42 := hc11
      refine l_q (q_skip rfl) (l_q (q_skip rfl) (l_q (q_skip rfl) (l_q (q_skip rfl) (l_q (q_pick_f (v := .bool _) rfl rfl rfl) (l_nil (r_forget [(1, .slice _ _ _), (2, .int _ _), (3, .pointer _), (7, .int _ _), (47, .bool _)] ⟨rfl, rfl, rfl, rfl, rfl, trivial⟩ (fun e15 => (r_cond_f rfl (r_skip (r_inBlock (r_region' (l_q (qmi rfl rfl) (l_q (q_add rfl rfl (by omega) rfl) (l_q (qai rfl rfl) (l_nil ?_)))))))))))))))
      exact ih2 (k + 1) _ _ ⟨⟨rfl, rfl, rfl, (vint_eq (by omega)), trivial⟩, (by omega), (fun j hj => by rcases Nat.lt_succ_iff_lt_or_eq.1 hj with h | h; exact hno j h; subst h; rw [hear_2 (by omega)]; rfl), hb1, hsz, hB⟩ (by first | omega | (dsimp only; omega))
    ·
     replace hc10 := dle hc10
     have g36 := hc10
     refine l_q (q_skip rfl) (l_q (q_skip rfl) (l_q (q_skip rfl) (l_q (q_skip rfl) (l_q (q_pick_f (v := .bool _) rfl rfl rfl) (l_q (qmb rfl rfl) (l_q (q_skip rfl) (l_q (q_skip rfl) (l_q (q_skip rfl) (l_q (q_skip rfl) (l_q (q_pick_f (v := .bool _) rfl rfl rfl) (l_nil (r_forget [(1, .slice _ _ _), (2, .int _ _), (3, .pointer _), (7, .int _ _), (47, .bool _)] ⟨rfl, rfl, rfl, rfl, rfl, trivial⟩ (fun e16 => (r_cond_f rfl (r_skip (r_inBlock (r_region' (l_q (qmi rfl rfl) (l_q (q_add rfl rfl (by omega) rfl) (l_q (qai rfl rfl) (l_nil ?_)))))))))))))))))))))
     exact ih2 (k + 1) _ _ ⟨⟨rfl, rfl, rfl, (vint_eq (by omega)), trivial⟩, (by omega), (fun j hj => by rcases Nat.lt_succ_iff_lt_or_eq.1 hj with h | h; exact hno j h; subst h; rw [hear_2 (by omega)]; rfl), hb1, hsz, hB⟩ (by first | omega | (dsimp only; omega))
   ·
    replace hc9 := dle hc9
    have g30 := hc9
    refine l_q (q_skip rfl) (l_q (q_skip rfl) (l_q (q_skip rfl) (l_q (q_skip rfl) (l_q (q_pick_f (v := .bool _) rfl rfl rfl) (l_q (qmb rfl rfl) (l_q (q_skip rfl) (l_q (q_skip rfl) (l_q (q_skip rfl) (l_q (q_skip rfl) (l_q (q_pick_f (v := .bool _) rfl rfl rfl) (l_q (qmb rfl rfl) (l_q (q_skip rfl) (l_q (q_skip rfl) (l_q (q_skip rfl) (l_q (q_skip rfl) (l_q (q_pick_f (v := .bool _) rfl rfl rfl) (l_nil (r_forget [(1, .slice _ _ _), (2, .int _ _), (3, .pointer _), (7, .int _ _), (47, .bool _)] ⟨rfl, rfl, rfl, rfl, rfl, trivial⟩ (fun e17 => (r_cond_f rfl (r_skip (r_inBlock (r_region' (l_q (qmi rfl rfl) (l_q (q_add rfl rfl (by omega) rfl) (l_q (qai rfl rfl) (l_nil ?_)))))))))))))))))))))))))))
    exact ih2 (k + 1) _ _ ⟨⟨rfl, rfl, rfl, (vint_eq (by omega)), trivial⟩, (by omega), (fun j hj => by rcases Nat.lt_succ_iff_lt_or_eq.1 hj with h | h; exact hno j h; subst h; rw [hear_1 (by omega) (by omega)]; rfl), hb1, hsz, hB⟩ (by first | omega | (dsimp only; omega))
  ·
   replace hc3 := dlt hc3
   refine r_exit rfl (r_seq (r_region' (l_q (qab rfl rfl) (l_nil (r_ret_ (vs := [.bool _]) rfl Tryz.func70 rfl (.nil _) ⟨rfl, trivial⟩ ?_)))))
   exact ⟨vbool_eq (can_no (fun j hj => hno j (by omega))).symm, Ext.of_below hB⟩
theorem put6_ret (la : Option Addr) (lc : Nat) (L : List SV) (xa : Option Addr) (xc : Nat) (xs : List Int) (w : World) (hl : Row w la L.length lc 1 (L.map SV.enc)) (hlr : RowsI w L) (hln : L.length ≤ 2097152) (hle : ∀ s ∈ L, s.xs.length ≤ 2097152) (hx : Row w xa xs.length xc 1 (xs.map vint)) (hxn : xs.length ≤ 2097152) : Ret Tryz.prog 71 [.slice la L.length lc, .slice xa xs.length xc] w (fun v w' => ∃ da dc D, v = .slice da (List.length D) dc ∧ Row w' da (List.length D) dc 1 (D.map SV.enc) ∧ (∀ s ∈ D, s ∈ L ∨ s = ⟨xa, xc, xs⟩) ∧ D.map (·.xs) = putA xs (L.map (·.xs)) ∧ Ext w w') := by
 have hB := Below.refl w.heap.size w
 have hsz : w.heap.size ≤ w.heap.size := Nat.le_refl _
 refine ret_of_runs (args := [_, _]) Tryz.func71 rfl (Nat.le_of_ble_eq_true rfl) (by kernel_rfl) (r_seq (r_region' (l_q (qas rfl rfl) (l_nil (r_seq (r_region' (l_q (qas rfl rfl) (l_nil (r_seq (r_region' (l_q (qab rfl rfl) (l_nil (r_seq (r_seq (r_region' (l_q (qai rfl rfl) (l_nil (r_block (r_rounds (α := Nat × (Option Addr) × Nat × (List SV) × Bool) (fun ⟨k, oa, oc, M, pb⟩ e wl => Knows e [(0, .slice la L.length lc), (1, .slice xa xs.length xc), (5, .slice oa ((M).length) oc), (6, .bool pb), (7, vint (k : Int))] ∧ (k ≤ L.length) ∧ (putK xs (L.map (·.xs)) k = (M.map (·.xs), pb)) ∧ (∀ s ∈ M, s ∈ L ∨ s = ⟨xa, xc, xs⟩) ∧ (M.length ≤ 2 * k) ∧ (∀ j, j < k → ¬ (L.getD j sv0).xs = xs) ∧ (wl.ownsRow w.heap.size 25 1 (.slice oa ((M).length) oc) ((M).length) ((M).map SV.enc)) ∧ (w.heap.size ≤ wl.heap.size) ∧ (Below w.heap.size w wl)) (fun ⟨k, oa, oc, M, pb⟩ => L.length - k) (0, none, 0, [], false) ?_ ?_)))))))))))))))))))
 ·
  exact ⟨⟨rfl, rfl, rfl, rfl, rfl, trivial⟩, (Nat.zero_le _), rfl, (fun s hs => by cases hs), (Nat.zero_le _), (fun i hi => absurd hi (Nat.not_lt_zero _)), (World.ownsRow_nil _ _ _ _), hsz, hB⟩
 ·
  rintro ⟨k, oa, oc, M, pb⟩ el1 wl1 ⟨hkn, hk, hM, hMs, hMl, hno, ho, hsz, hB⟩ ih1
  obtain ⟨e1, rfl⟩ := knows_env hkn
  refine r_seq (r_seq (r_region' (l_q (qmi rfl rfl) (l_q (qms rfl rfl) (l_q (q_len rfl Tryz.underlying47 rfl rfl) (l_q (q_lss rfl rfl rfl) (l_nil (r_cond rfl (fun hc2 => ?_) (fun hc2 => ?_)))))))))
  ·
   replace hc2 := dt hc2
   have hkl : k < L.length := by omega
   have hel := hle _ (getD_lt (d := sv0) hkl)
   refine r_skip (r_seq (r_block (r_seq (r_seq (r_region' (l_q (qms rfl rfl) (l_q (qmi rfl rfl) ?_)))))))
   have hr4 := (hlr.below hB).get (i := k) (by omega)
   obtain ⟨b3, o3, ha3, hh3⟩ := (hl.below hB).at1 k ((L).getD k sv0) (getD_some (by omega))
   refine l_q (q_indexAddr1 Tryz.underlying47 Tryz.sizeOf25 rfl ha3 rfl (by omega) rfl) (l_q (q_load Tryz.isAgg25 rfl (hh3) rfl) (l_q (qms rfl rfl) (l_o (o_call Tryz.call24 rfl (same_ret _ _ (((L).getD k sv0).xs) _ _ xs _ hr4 (by omega) (hx.below hB) (by omega)) rfl ?_))))
   rintro _ w5 ⟨rfl, hE5⟩
   replace hB := below_ext hB hE5 hsz
   replace ho := own_ext ho hE5
   replace hsz := Nat.le_trans hsz hE5.size
   refine l_nil (r_cond rfl (fun hc6 => ?_) (fun hc6 => ?_))
   ·
    replace hc6 := dt hc6
    have g19 := hc6
    refine r_seq (r_region' (l_q (qms rfl rfl) (l_q (qas rfl rfl) (l_nil (r_forget [(4, .slice _ _ _)] ⟨rfl, trivial⟩ (fun e7 => (r_ret_ (vs := [.slice _ _ _]) rfl Tryz.func71 rfl (.nil _) ⟨rfl, trivial⟩ ?_)))))))
    exact ⟨la, lc, L, rfl, hl.below hB, (fun s hs => .inl hs), put_in (by rw [List.length_map]; exact hkl) (by rw [svx_getD]; exact g19), Ext.of_below hB⟩
   ·
    replace hc6 := df hc6
    have g19 := hc6
    refine r_skip (r_seq (r_seq (r_region' (l_q (qmb rfl rfl) (l_q (q_not rfl rfl) (l_q (qmb rfl rfl) (l_part 23 rfl (fun hc8 => ?_) (fun hc8 => ?_))))))))
    ·
     replace hc8 := nt hc8
     have g23 : pb = false := by simpa using hc8
     refine l_q (qms rfl rfl) (l_q (qms rfl rfl) (l_q (qmi rfl rfl) ?_))
     have hr10 := (hlr.below hB).get (i := k) (by omega)
     obtain ⟨b9, o9, ha9, hh9⟩ := (hl.below hB).at1 k ((L).getD k sv0) (getD_some (by omega))
     refine l_q (q_indexAddr1 Tryz.underlying47 Tryz.sizeOf25 rfl ha9 rfl (by omega) rfl) (l_q (q_load Tryz.isAgg25 rfl (hh9) rfl) (l_o (o_call Tryz.call52 rfl (bef6_ret _ _ xs _ _ (((L).getD k sv0).xs) _ (hx.below hB) (by omega) hr10 (by omega)) rfl ?_)))
     rintro _ w11 ⟨rfl, hE11⟩
     replace hB := below_ext hB hE11 hsz
     replace ho := own_ext ho hE11
     replace hsz := Nat.le_trans hsz hE11.size
     refine l_q (q_pick_t (v := .bool _) rfl rfl rfl) (l_nil (r_forget [(0, .slice _ _ _), (1, .slice _ _ _), (5, .slice _ _ _), (6, .bool _), (7, .int _ _), (30, .bool _)] ⟨rfl, rfl, rfl, rfl, rfl, rfl, trivial⟩ (fun e12 => (r_cond rfl (fun hc13 => ?_) (fun hc13 => ?_)))))
     ·
      replace hc13 := dt hc13
      have g30 := hc13
      refine r_seq (r_region' (l_q (qms rfl rfl) (l_q (qms rfl rfl) (l_o (o_buildSlice (el := 25) (cs := [.slice xa xs.length xc]) Tryz.underlying47 el25 (by decide) (by kernel_rfl) rfl (by decide) rfl ?_)))))
      intro b14 w14 hzl14 hzr14 _ hb14 hE14 ho14
      have hbs_b14 : w.heap.size ≤ b14 := Nat.le_trans hsz hzl14
      replace hB := below_ext hB hE14 hsz
      replace ho := own_ext ho hE14
      replace hsz := Nat.le_trans hsz hE14.size
      refine l_o (o_append_map (f := SV.enc) (M) ([⟨xa, xc, xs⟩]) Tryz.underlying47 el25 rfl rfl ho rfl (Row.of_owns ho14) (fun _ => rfl) (by (try simp only [List.length_append, List.length_cons, List.length_nil, List.length_take, List.length_drop, List.length_replicate]); omega) (by omega) rfl ?_)
      intro a15 c15 w15 hz15 ho15 hG15
      replace hB := below_own hB hG15 ho (by omega) hsz
      replace hsz := Nat.le_trans hsz hG15.size
      refine l_q (qas rfl rfl) (l_nil (r_region' (l_q (qab rfl rfl) (l_nil (r_region' (l_q (qms rfl rfl) (l_q (qms rfl rfl) (l_q (qmi rfl rfl) ?_))))))))
      have hr17 := (hlr.below hB).get (i := k) (by omega)
      obtain ⟨b16, o16, ha16, hh16⟩ := (hl.below hB).at1 k ((L).getD k sv0) (getD_some (by omega))
      refine l_q (q_indexAddr1 Tryz.underlying47 Tryz.sizeOf25 rfl ha16 rfl (by omega) rfl) (l_q (q_load Tryz.isAgg25 rfl (hh16) rfl) (l_o (o_buildSlice (el := 25) (cs := [.slice (((L).getD k sv0).a) (((L).getD k sv0).xs.length) (((L).getD k sv0).c)]) Tryz.underlying47 el25 (by decide) (by kernel_rfl) rfl (by decide) rfl ?_)))
      intro b18 w18 hzl18 hzr18 _ hb18 hE18 ho18
      have hbs_b18 : w.heap.size ≤ b18 := Nat.le_trans hsz hzl18
      replace hB := below_ext hB hE18 hsz
      replace ho15 := own_ext ho15 hE18
      replace hsz := Nat.le_trans hsz hE18.size
      refine l_o (o_append_map (f := SV.enc) (M ++ [⟨xa, xc, xs⟩]) ([⟨((L).getD k sv0).a, ((L).getD k sv0).c, ((L).getD k sv0).xs⟩]) Tryz.underlying47 el25 rfl rfl ho15 rfl (Row.of_owns ho18) (fun _ => rfl) (by (try simp only [List.length_append, List.length_cons, List.length_nil, List.length_take, List.length_drop, List.length_replicate]); omega) (by omega) rfl ?_)
      intro a19 c19 w19 hz19 ho19 hG19
      replace hB := below_own hB hG19 ho15 (by omega) hsz
      replace hsz := Nat.le_trans hsz hG19.size
      refine l_q (qas rfl rfl) (l_nil (r_forget [(0, .slice _ _ _), (1, .slice _ _ _), (5, .slice _ _ _), (6, .bool _), (7, .int _ _)] ⟨rfl, rfl, rfl, rfl, rfl, trivial⟩ (fun e20 => (r_inBlock (r_region' (l_q (qmi rfl rfl) (l_q (q_add rfl rfl (by omega) rfl) (l_q (qai rfl rfl) (l_nil ?_)))))))))
      exact ih1 (k + 1, a19, c19, ((M ++ [⟨xa, xc, xs⟩]) ++ [⟨((L).getD k sv0).a, ((L).getD k sv0).c, ((L).getD k sv0).xs⟩]), true) _ _ ⟨⟨rfl, rfl, rfl, rfl, (vint_eq (by omega)), trivial⟩, (by omega), (by rw [putK_succ (by rw [List.length_map]; exact hkl), hM, svx_getD, putS_1 g23 g30, List.map_append, List.map_append]; rfl), (fun s hs => by simp only [List.mem_append, List.mem_singleton] at hs; rcases hs with (hs | hs) | hs; exact hMs s hs; exact .inr hs; exact .inl (by rw [hs]; exact getD_lt (d := sv0) hkl)), (by simp only [List.length_append, List.length_singleton]; omega), (fun j hj => by rcases Nat.lt_succ_iff_lt_or_eq.1 hj with h | h; exact hno j h; subst h; exact g19), ho19, hsz, hB⟩ (by first | omega | (dsimp only; omega))
     ·
      replace hc13 := dlt hc13
      have g30 : ¬ cmpV xs (L.getD k sv0).xs < 0 := by have := hc13; omega
      refine r_skip (r_region' (l_q (qms rfl rfl) (l_q (qms rfl rfl) (l_q (qmi rfl rfl) ?_))))
      have hr22 := (hlr.below hB).get (i := k) (by omega)
      obtain ⟨b21, o21, ha21, hh21⟩ := (hl.below hB).at1 k ((L).getD k sv0) (getD_some (by omega))
      refine l_q (q_indexAddr1 Tryz.underlying47 Tryz.sizeOf25 rfl ha21 rfl (by omega) rfl) (l_q (q_load Tryz.isAgg25 rfl (hh21) rfl) (l_o (o_buildSlice (el := 25) (cs := [.slice (((L).getD k sv0).a) (((L).getD k sv0).xs.length) (((L).getD k sv0).c)]) Tryz.underlying47 el25 (by decide) (by kernel_rfl) rfl (by decide) rfl ?_)))
      intro b23 w23 hzl23 hzr23 _ hb23 hE23 ho23
      have hbs_b23 : w.heap.size ≤ b23 := Nat.le_trans hsz hzl23
      replace hB := below_ext hB hE23 hsz
      replace ho := own_ext ho hE23
      replace hsz := Nat.le_trans hsz hE23.size
      refine l_o (o_append_map (f := SV.enc) (M) ([⟨((L).getD k sv0).a, ((L).getD k sv0).c, ((L).getD k sv0).xs⟩]) Tryz.underlying47 el25 rfl rfl ho rfl (Row.of_owns ho23) (fun _ => rfl) (by (try simp only [List.length_append, List.length_cons, List.length_nil, List.length_take, List.length_drop, List.length_replicate]); omega) (by omega) rfl ?_)
      intro a24 c24 w24 hz24 ho24 hG24
      replace hB := below_own hB hG24 ho (by omega) hsz
      replace hsz := Nat.le_trans hsz hG24.size
      refine l_q (qas rfl rfl) (l_nil (r_inBlock (r_region' (l_q (qmi rfl rfl) (l_q (q_add rfl rfl (by omega) rfl) (l_q (qai rfl rfl) (l_nil (r_forget [(0, .slice _ _ _), (1, .slice _ _ _), (5, .slice _ _ _), (6, .bool _), (7, .int _ _)] ⟨rfl, rfl, rfl, rfl, rfl, trivial⟩ (fun e25 => ?_)))))))))
      exact ih1 (k + 1, a24, c24, (M ++ [⟨((L).getD k sv0).a, ((L).getD k sv0).c, ((L).getD k sv0).xs⟩]), pb) _ _ ⟨⟨rfl, rfl, rfl, rfl, (vint_eq (by omega)), trivial⟩, (by omega), (by rw [putK_succ (by rw [List.length_map]; exact hkl), hM, svx_getD, putS_3 g30, List.map_append]; rfl), (fun s hs => by simp only [List.mem_append, List.mem_singleton] at hs; rcases hs with hs | hs; exact hMs s hs; exact .inl (by rw [hs]; exact getD_lt (d := sv0) hkl)), (by simp only [List.length_append, List.length_singleton]; omega), (fun j hj => by rcases Nat.lt_succ_iff_lt_or_eq.1 hj with h | h; exact hno j h; subst h; exact g19), ho24, hsz, hB⟩ (by first | omega | (dsimp only; omega))
    ·
     replace hc8 := nf hc8
     have g23 : pb = true := by simpa using hc8
     refine l_q (q_skip rfl) (l_q (q_skip rfl) (l_q (q_skip rfl) (l_q (q_skip rfl) (l_q (q_skip rfl) (l_q (q_skip rfl) (l_q (q_pick_f (v := .bool _) rfl rfl rfl) (l_nil (r_forget [(0, .slice _ _ _), (1, .slice _ _ _), (5, .slice _ _ _), (6, .bool _), (7, .int _ _), (30, .bool _)] ⟨rfl, rfl, rfl, rfl, rfl, rfl, trivial⟩ (fun e26 => (r_cond_f rfl (r_skip (r_region' (l_q (qms rfl rfl) (l_q (qms rfl rfl) (l_q (qmi rfl rfl) ?_)))))))))))))))
     have hr28 := (hlr.below hB).get (i := k) (by omega)
     obtain ⟨b27, o27, ha27, hh27⟩ := (hl.below hB).at1 k ((L).getD k sv0) (getD_some (by omega))
     refine l_q (q_indexAddr1 Tryz.underlying47 Tryz.sizeOf25 rfl ha27 rfl (by omega) rfl) (l_q (q_load Tryz.isAgg25 rfl (hh27) rfl) (l_o (o_buildSlice (el := 25) (cs := [.slice (((L).getD k sv0).a) (((L).getD k sv0).xs.length) (((L).getD k sv0).c)]) Tryz.underlying47 el25 (by decide) (by kernel_rfl) rfl (by decide) rfl ?_)))
     intro b29 w29 hzl29 hzr29 _ hb29 hE29 ho29
     have hbs_b29 : w.heap.size ≤ b29 := Nat.le_trans hsz hzl29
     replace hB := below_ext hB hE29 hsz
     replace ho := own_ext ho hE29
     replace hsz := Nat.le_trans hsz hE29.size
     refine l_o (o_append_map (f := SV.enc) (M) ([⟨((L).getD k sv0).a, ((L).getD k sv0).c, ((L).getD k sv0).xs⟩]) Tryz.underlying47 el25 rfl rfl ho rfl (Row.of_owns ho29) (fun _ => rfl) (by (try simp only [List.length_append, List.length_cons, List.length_nil, List.length_take, List.length_drop, List.length_replicate]); omega) (by omega) rfl ?_)
     intro a30 c30 w30 hz30 ho30 hG30
     replace hB := below_own hB hG30 ho (by omega) hsz
     replace hsz := Nat.le_trans hsz hG30.size
     refine l_q (qas rfl rfl) (l_nil (r_inBlock (r_region' (l_q (qmi rfl rfl) (l_q (q_add rfl rfl (by omega) rfl) (l_q (qai rfl rfl) (l_nil (r_forget [(0, .slice _ _ _), (1, .slice _ _ _), (5, .slice _ _ _), (6, .bool _), (7, .int _ _)] ⟨rfl, rfl, rfl, rfl, rfl, trivial⟩ (fun e31 => ?_)))))))))
     exact ih1 (k + 1, a30, c30, (M ++ [⟨((L).getD k sv0).a, ((L).getD k sv0).c, ((L).getD k sv0).xs⟩]), pb) _ _ ⟨⟨rfl, rfl, rfl, rfl, (vint_eq (by omega)), trivial⟩, (by omega), (by rw [putK_succ (by rw [List.length_map]; exact hkl), hM, svx_getD, putS_2 g23, List.map_append]; rfl), (fun s hs => by simp only [List.mem_append, List.mem_singleton] at hs; rcases hs with hs | hs; exact hMs s hs; exact .inl (by rw [hs]; exact getD_lt (d := sv0) hkl)), (by simp only [List.length_append, List.length_singleton]; omega), (fun j hj => by rcases Nat.lt_succ_iff_lt_or_eq.1 hj with h | h; exact hno j h; subst h; exact g19), ho30, hsz, hB⟩ (by first | omega | (dsimp only; omega))
  ·
   replace hc2 := dlt hc2
   refine r_exit rfl (r_seq (r_seq (r_region' (l_q (qmb rfl rfl) (l_q (q_not rfl rfl) (l_nil (r_cond rfl (fun hc32 => ?_) (fun hc32 => ?_))))))))
   ·
    replace hc32 := nt hc32
    have g43 : pb = false := by simpa using hc32
    refine r_region' (l_q (qms rfl rfl) (l_q (qms rfl rfl) (l_o (o_buildSlice (el := 25) (cs := [.slice xa xs.length xc]) Tryz.underlying47 el25 (by decide) (by kernel_rfl) rfl (by decide) rfl ?_))))
    intro b33 w33 hzl33 hzr33 _ hb33 hE33 ho33
    have hbs_b33 : w.heap.size ≤ b33 := Nat.le_trans hsz hzl33
    replace hB := below_ext hB hE33 hsz
    replace ho := own_ext ho hE33
    replace hsz := Nat.le_trans hsz hE33.size
    refine l_o (o_append_map (f := SV.enc) (M) ([⟨xa, xc, xs⟩]) Tryz.underlying47 el25 rfl rfl ho rfl (Row.of_owns ho33) (fun _ => rfl) (by (try simp only [List.length_append, List.length_cons, List.length_nil, List.length_take, List.length_drop, List.length_replicate]); omega) (by omega) rfl ?_)
    intro a34 c34 w34 hz34 ho34 hG34
    replace hB := below_own hB hG34 ho (by omega) hsz
    replace hsz := Nat.le_trans hsz hG34.size
    refine l_q (qas rfl rfl) (l_nil (r_forget [(5, .slice _ _ _)] ⟨rfl, trivial⟩ (fun e35 => (r_seq (r_region' (l_q (qms rfl rfl) (l_q (qas rfl rfl) (l_nil (r_ret_ (vs := [.slice _ _ _]) rfl Tryz.func71 rfl (.nil _) ⟨rfl, trivial⟩ ?_)))))))))
    have hD := put_fin hno (by omega) hM
    rw [if_neg (by rw [g43]; decide)] at hD
    exact ⟨a34, c34, M ++ [⟨xa, xc, xs⟩], rfl, (Row.of_owns ho34), (fun s hs => by rcases List.mem_append.1 hs with hs | hs; exact hMs s hs; exact .inr (List.mem_singleton.1 hs)), (by rw [hD, List.map_append]; rfl), Ext.of_below hB⟩
   ·
    replace hc32 := nf hc32
    have g43 : pb = true := by simpa using hc32
    refine r_skip (r_seq (r_region' (l_q (qms rfl rfl) (l_q (qas rfl rfl) (l_nil (r_forget [(4, .slice _ _ _)] ⟨rfl, trivial⟩ (fun e36 => (r_ret_ (vs := [.slice _ _ _]) rfl Tryz.func71 rfl (.nil _) ⟨rfl, trivial⟩ ?_))))))))
    have hD := put_fin hno (by omega) hM
    rw [if_pos g43] at hD
    exact ⟨oa, oc, M, rfl, Row.of_owns ho, hMs, hD.symm, Ext.of_below hB⟩
theorem rheard6_ret (ka : Option Addr) (kc : Nat) (co : List Sg) (er : Int) (sa : Option Addr) (sc : Nat) (se : List Int) (ja : Option Addr) (jc : Nat) (sl : List SN) (ra : Option Addr) (rc : Nat) (rl : List RC) (bf : Int) (w : World) (hlg : LgAt w ka kc co sa sc se ja jc sl ra rc rl) (hbg : LgBig co er se sl rl) (hok : faultM (lg co er se sl rl) = 0) : Ret Tryz.prog 29 [.agg ⟨[.slice ka co.length kc, vint er, .slice sa se.length sc, .slice ja sl.length jc, .slice ra rl.length rc]⟩, vint bf] w (fun v w' => ∃ da dc D, v = .slice da (List.length D) dc ∧ Row w' da (List.length D) dc 1 (D.map SV.enc) ∧ RowsI w' D ∧ D.map (·.xs) = textsL (lg co er se sl rl) bf ∧ Ext w w') := by
 obtain ⟨⟨hcn, hcl⟩, hen, hsn, ⟨hjn, hjl⟩, hrn, hrl⟩ := id hbg
 obtain ⟨⟨hs1, hs4⟩, hj8, hr6, hf0, ⟨he0, he3⟩, hsr, hJn, hRn⟩ := lg_ok hok
 have hj8s : sl.length ≤ 8 := by have h := hj8; rwa [lgJ] at h
 have hx5 : ∀ s ∈ sl, s.xs.length ≤ 5 := fun s hs => (hJn _ (List.mem_map.2 ⟨s, hs, rfl⟩)).2.2.1.2
 have hB := Below.refl w.heap.size w
 have hsz : w.heap.size ≤ w.heap.size := Nat.le_refl _
 refine ret_of_runs (args := [_, _]) Tryz.func29 rfl (Nat.le_of_ble_eq_true rfl) (by kernel_rfl) (r_seq (r_region' (l_o (o_boxt rfl rfl rfl ?_))))
 intro b1 w1 hzl1 hzr1 _ hb1 hty_b1 hE1
 have hbs_b1 : w.heap.size ≤ b1 := Nat.le_trans hsz hzl1
 replace hB := below_ext hB hE1 hsz
 replace hsz := Nat.le_trans hsz hE1.size
 refine l_q (qas rfl rfl) (l_nil (r_seq (r_region' (l_q (qas rfl rfl) (l_nil (r_seq (r_seq (r_region' (l_q (qai rfl rfl) (l_nil (r_block (r_rounds (α := Nat × (Option Addr) × Nat × (List SV)) (fun ⟨n, oa, oc, M⟩ e wl => Knows e [(1, vint bf), (2, ptr b1 0), (5, .slice oa ((M).length) oc), (6, vint ((n + 1 : Nat) : Int))] ∧ (n ≤ 5) ∧ (M.map (·.xs) = heardK (lg co er se sl rl) bf n) ∧ (RowsI w M) ∧ (M.length ≤ 60 * n) ∧ (wl.ownsRow w.heap.size 25 1 (.slice oa ((M).length) oc) ((M).length) ((M).map SV.enc)) ∧ (Blk wl b1 [.slice ka co.length kc, vint er, .slice sa se.length sc, .slice ja sl.length jc, .slice ra rl.length rc]) ∧ (TyAt wl b1 29) ∧ (w.heap.size ≤ wl.heap.size) ∧ (Below w.heap.size w wl)) (fun ⟨n, oa, oc, M⟩ => 5 - n) (0, none, 0, []) ?_ ?_))))))))))))
 ·
  exact ⟨⟨rfl, rfl, rfl, rfl, trivial⟩, (Nat.zero_le _), rfl, (RowsI.nil _), (Nat.zero_le _), (World.ownsRow_nil _ _ _ _), hb1, hty_b1, hsz, hB⟩
 ·
  rintro ⟨n, oa, oc, M⟩ el2 wl2 ⟨hkn, hn5, hM, hMr, hMl, ho, hb1, hty_b1, hsz, hB⟩ ih2
  obtain ⟨e2, rfl⟩ := knows_env hkn
  refine r_seq (r_seq (r_region' (l_q (qmi rfl rfl) (l_q (q_leq rfl rfl rfl) (l_nil (r_cond rfl (fun hc3 => ?_) (fun hc3 => ?_)))))))
  ·
   replace hc3 := dt hc3
   have hn4 : n ≤ 4 := by omega
   refine r_skip (r_seq (r_block (r_seq (r_region' (l_q (qas rfl rfl) (l_nil (r_seq (r_seq (r_region' (l_q (qai rfl rfl) (l_nil (r_block (r_rounds (α := Nat × (Option Addr) × Nat × (List SV)) (fun ⟨i, la, lc, L2⟩ e wl => Knows e [(1, vint bf), (2, ptr b1 0), (5, .slice oa ((M).length) oc), (6, vint ((n + 1 : Nat) : Int)), (7, .slice la ((L2).length) lc), (8, vint (i : Int))] ∧ (i ≤ sl.length) ∧ (L2.map (·.xs) = lvK (lg co er se sl rl) sl bf (n + 1) i 0) ∧ (RowsI w L2) ∧ (∀ s ∈ L2, s.xs.length ≤ 2097152) ∧ (Row wl la ((L2).length) lc 1 ((L2).map SV.enc)) ∧ (Blk wl b1 [.slice ka co.length kc, vint er, .slice sa se.length sc, .slice ja sl.length jc, .slice ra rl.length rc]) ∧ (TyAt wl b1 29) ∧ (wl.ownsRow w.heap.size 25 1 (.slice oa ((M).length) oc) ((M).length) ((M).map SV.enc)) ∧ (w.heap.size ≤ wl.heap.size) ∧ (Below w.heap.size w wl)) (fun ⟨i, la, lc, L2⟩ => sl.length - i) (0, none, 0, []) ?_ ?_)))))))))))))
   ·
    exact ⟨⟨rfl, rfl, rfl, rfl, rfl, rfl, trivial⟩, (Nat.zero_le _), (by rw [lv_zero]; rfl), (RowsI.nil _), (fun s hs => by cases hs), (Row.nil _ _ _ _), hb1, hty_b1, ho, hsz, hB⟩
   ·
    rintro ⟨i, la, lc, L2⟩ el4 wl4 ⟨hkn, hi, hL, hLr, hLx, hlw, hb1, hty_b1, ho, hsz, hB⟩ ih4
    obtain ⟨e4, rfl⟩ := knows_env hkn
    refine r_seq (r_seq (r_region' (l_q (qmi rfl rfl) (l_q (q_fieldAddr (o' := 3) rfl fld29_3 rfl) (l_q (q_load Tryz.isAgg26 rfl ((hb1.has (o := 3) rfl)) rfl) (l_q (q_len rfl Tryz.underlying26 rfl rfl) (l_q (q_lss rfl rfl rfl) (l_nil (r_cond rfl (fun hc5 => ?_) (fun hc5 => ?_))))))))))
    ·
     replace hc5 := dt hc5
     have hiS : i < sl.length := by omega
     have hxi : (sl.getD i sn00).xs.length ≤ 5 := hx5 _ (getD_lt (d := sn00) hiS)
     refine r_skip (r_seq (r_block (r_seq (r_region' (l_q (qai rfl rfl) (l_nil (r_block ?_)))))))
     refine r_rounds (α := Nat × (Option Addr) × Nat × (List SV)) (fun ⟨f, la3, lc3, L3⟩ e wl => Knows e [(1, vint bf), (2, ptr b1 0), (5, .slice oa ((M).length) oc), (6, vint ((n + 1 : Nat) : Int)), (7, .slice la3 ((L3).length) lc3), (8, vint (i : Int)), (9, vint (f : Int))] ∧ (f ≤ (sl.getD i sn00).xs.length + 1 - (n + 1)) ∧ (L3.map (·.xs) = lvK (lg co er se sl rl) sl bf (n + 1) i f) ∧ (RowsI w L3) ∧ (∀ s ∈ L3, s.xs.length ≤ 2097152) ∧ (Row wl la3 ((L3).length) lc3 1 ((L3).map SV.enc)) ∧ (Blk wl b1 [.slice ka co.length kc, vint er, .slice sa se.length sc, .slice ja sl.length jc, .slice ra rl.length rc]) ∧ (TyAt wl b1 29) ∧ (wl.ownsRow w.heap.size 25 1 (.slice oa ((M).length) oc) ((M).length) ((M).map SV.enc)) ∧ (w.heap.size ≤ wl.heap.size) ∧ (Below w.heap.size w wl)) (fun ⟨f, la3, lc3, L3⟩ => (sl.getD i sn00).xs.length + 1 - f) (0, la, lc, L2) ?_ ?_
     ·
      exact ⟨⟨rfl, rfl, rfl, rfl, rfl, rfl, rfl, trivial⟩, (Nat.zero_le _), hL, hLr, hLx, hlw, hb1, hty_b1, ho, hsz, hB⟩
     ·
      rintro ⟨f, la3, lc3, L3⟩ el6 wl6 ⟨hkn, hf, hL3, hLr3, hLx3, hlw, hb1, hty_b1, ho, hsz, hB⟩ ih6
      obtain ⟨e6, rfl⟩ := knows_env hkn
      refine r_seq (r_seq (r_region' (l_q (qmi rfl rfl) (l_q (qmi rfl rfl) (l_q (q_add rfl rfl (by omega) rfl) (l_q (q_fieldAddr (o' := 3) rfl fld29_3 rfl) (l_q (q_load Tryz.isAgg26 rfl ((hb1.has (o := 3) rfl)) rfl) (l_q (qmi rfl rfl) ?_))))))))
      obtain ⟨b7, o7, ha7, hh7⟩ := (hlg.rsl.below hB).at (by decide) i (by omega)
      refine l_q (q_indexAddr Tryz.underlying26 Tryz.sizeOf69 rfl ha7 rfl (by omega) rfl) (l_q (q_fieldAddr (o' := 2) rfl fld69_2 rfl) (l_q (q_load Tryz.isAgg25 rfl (((cells_cast (wide_at SN.len sn00 _ _ (by omega)) hh7) 2 _ rfl)) rfl) (l_q (q_len rfl Tryz.underlying25 rfl rfl) (l_q (q_leq rfl rfl rfl) (l_nil (r_forget [(1, .int _ _), (2, .pointer _), (5, .slice _ _ _), (6, .int _ _), (7, .slice _ _ _), (8, .int _ _), (9, .int _ _), (32, .bool _)] ⟨rfl, rfl, rfl, rfl, rfl, rfl, rfl, rfl, trivial⟩ (fun e8 => (r_cond rfl (fun hc9 => ?_) (fun hc9 => ?_)))))))))
      ·
       replace hc9 := dt hc9
       have hfl : f + (n + 1) ≤ (sl.getD i sn00).xs.length := by omega
       have hL3l : L3.length ≤ 60 := by have h := congrArg List.length hL3; rw [List.length_map] at h; rw [h]; exact lv_len hj8s hx5 (by omega)
       refine r_skip (r_seq (r_block (r_seq (r_region' (l_q (q_fieldAddr (o' := 3) rfl fld29_3 rfl) (l_q (q_load Tryz.isAgg26 rfl ((hb1.has (o := 3) rfl)) rfl) (l_q (qmi rfl rfl) ?_)))))))
       obtain ⟨b10, o10, ha10, hh10⟩ := (hlg.rsl.below hB).at (by decide) i (by omega)
       refine l_q (q_indexAddr Tryz.underlying26 Tryz.sizeOf69 rfl ha10 rfl (by omega) rfl) (l_q (q_fieldAddr (o' := 2) rfl fld69_2 rfl) (l_q (q_load Tryz.isAgg25 rfl (((cells_cast (wide_at SN.len sn00 _ _ (by omega)) hh10) 2 _ rfl)) rfl) (l_q (qmi rfl rfl) (l_q (qmi rfl rfl) (l_q (qmi rfl rfl) (l_q (q_add rfl rfl (by omega) rfl) ?_))))))
       obtain ⟨a11, c11, hr11, hv11⟩ := slice_ex (f := vint) (xs := ((sl).getD i sn00).xs) ((f : Int)) ((f : Int) + ((n + 1 : Nat) : Int)) (RowsS.get (hlg.rslr) (i := i) (by omega)) (by omega)
       refine l_q ((q_slice (lo := (f : Int)) (hi := (f : Int) + ((n + 1 : Nat) : Int)) Tryz.underlying25 Tryz.sizeOf3 rfl rfl rfl (by omega) ((RowsS.get (hlg.rslr) (i := i) (by omega)).below hB).2.1 rfl).cast hv11) (l_q (qas rfl rfl) (l_nil (r_forget [(1, .int _ _), (2, .pointer _), (5, .slice _ _ _), (6, .int _ _), (7, .slice _ _ _), (8, .int _ _), (9, .int _ _), (10, .slice _ _ _)] ⟨rfl, rfl, rfl, rfl, rfl, rfl, rfl, rfl, trivial⟩ (fun e12 => (r_seq (r_region' (l_q (q_load_agg (n := 5) Tryz.isAgg29 Tryz.sizeOf29 rfl ((hb1.cells' (cs' := [_, _, _, _, _]) 0 5 rfl)) rfl rfl) (l_q (qms rfl rfl) (l_q (qmi rfl rfl) (l_o (o_call Tryz.call70 rfl (canSend6_ret ka kc co er sa sc se ja jc sl ra rc rl a11 c11 (((((sl).getD i sn00).xs).take ((f : Int) + ((n + 1 : Nat) : Int)).toNat).drop f) bf _ (hlg.below hB) hbg (hr11.below hB) (by simp only [List.length_drop, List.length_take]; omega) hok) rfl ?_)))))))))))
       rintro _ w13 ⟨rfl, hE13⟩
       replace hB := below_ext hB hE13 hsz
       replace hb1 := hb1.ext hE13
       replace hty_b1 := hty_b1.ext hE13
       replace ho := own_ext ho hE13
       replace hlw := hlw.ext hE13
       replace hsz := Nat.le_trans hsz hE13.size
       refine l_nil (r_cond rfl (fun hc14 => ?_) (fun hc14 => ?_))
       ·
        have g49 : canS (lg co er se sl rl) (subOf (sl.getD i sn00).xs f (n + 1)) bf = true := by have h := hc14; rwa [part_mk] at h
        refine r_region' (l_q (qms rfl rfl) (l_q (qms rfl rfl) (l_o (o_call Tryz.call71 rfl (put6_ret _ _ L3 a11 c11 (((((sl).getD i sn00).xs).take ((f : Int) + ((n + 1 : Nat) : Int)).toNat).drop f) _ hlw (hLr3.below hB) (by omega) hLx3 (hr11.below hB) (by simp only [List.length_drop, List.length_take]; omega)) rfl ?_))))
        rintro _ w15 ⟨pa15, pc15, PD15, rfl, hlw15, hPs, hPm, hE15⟩
        replace hB := below_ext hB hE15 hsz
        replace hb1 := hb1.ext hE15
        replace hty_b1 := hty_b1.ext hE15
        replace ho := own_ext ho hE15
        replace hlw := hlw.ext hE15
        replace hsz := Nat.le_trans hsz hE15.size
        refine l_q (qas rfl rfl) (l_nil (r_inBlock (r_region' (l_q (qmi rfl rfl) (l_q (q_add rfl rfl (by omega) rfl) (l_q (qai rfl rfl) (l_nil (r_forget [(1, .int _ _), (2, .pointer _), (5, .slice _ _ _), (6, .int _ _), (7, .slice _ _ _), (8, .int _ _), (9, .int _ _)] ⟨rfl, rfl, rfl, rfl, rfl, rfl, rfl, trivial⟩ (fun e16 => ?_)))))))))
        exact ih6 (f + 1, pa15, pc15, PD15) _ _ ⟨⟨rfl, rfl, rfl, rfl, rfl, rfl, (vint_eq (by omega)), trivial⟩, (by omega), (by rw [hPm, hL3, part_mk]; exact (lv_yes g49).symm), (fun s hs => (hPs s hs).elim (hLr3 s) (fun h => by rw [h]; exact hr11)), (fun s hs => (hPs s hs).elim (hLx3 s) (fun h => by rw [h]; simp only [List.length_drop, List.length_take]; omega)), hlw15, hb1, hty_b1, ho, hsz, hB⟩ (by first | omega | (dsimp only; omega))
       ·
        have g49 : canS (lg co er se sl rl) (subOf (sl.getD i sn00).xs f (n + 1)) bf = false := by have h := hc14; rwa [part_mk] at h
        refine r_skip (r_inBlock (r_region' (l_q (qmi rfl rfl) (l_q (q_add rfl rfl (by omega) rfl) (l_q (qai rfl rfl) (l_nil ?_))))))
        exact ih6 (f + 1, la3, lc3, L3) _ _ ⟨⟨rfl, rfl, rfl, rfl, rfl, rfl, (vint_eq (by omega)), trivial⟩, (by omega), (by rw [lv_no g49]; exact hL3), hLr3, hLx3, hlw, hb1, hty_b1, ho, hsz, hB⟩ (by first | omega | (dsimp only; omega))
      ·
       replace hc9 := dle hc9
       refine r_exit rfl (r_inBlock (r_region' (l_q (qmi rfl rfl) (l_q (q_add rfl rfl (by omega) rfl) (l_q (qai rfl rfl) (l_nil ?_))))))
       exact ih4 (i + 1, la3, lc3, L3) _ _ ⟨⟨rfl, rfl, rfl, rfl, rfl, (vint_eq (by omega)), trivial⟩, (by omega), (by rw [hL3]; exact lv_next hiS (by omega)), hLr3, hLx3, hlw, hb1, hty_b1, ho, hsz, hB⟩ (by first | omega | (dsimp only; omega))
    ·
     replace hc5 := dlt hc5
     have hLe : L2.map (·.xs) = levelM (lg co er se sl rl) bf (n + 1) := by rw [hL, show i = sl.length by omega, lv_end]
     have hL2l : L2.length ≤ 60 := by have h := congrArg List.length hL; rw [List.length_map] at h; rw [h]; exact lv_len hj8s hx5 (by omega)
     refine r_exit rfl (r_region' (l_q (qms rfl rfl) (l_q (qms rfl rfl) (l_o (o_append_map (f := SV.enc) (M) (L2) Tryz.underlying47 el25 rfl rfl ho rfl hlw (fun _ => rfl) (by (try simp only [List.length_append, List.length_cons, List.length_nil, List.length_take, List.length_drop, List.length_replicate]); omega) (by omega) rfl ?_)))))
     intro a17 c17 w17 hz17 ho17 hG17
     replace hB := below_own hB hG17 ho (by omega) hsz
     replace hsz := Nat.le_trans hsz hG17.size
     replace hb1 := hb1.step hG17 (own_ty_ne ho hty_b1 (by decide))
     replace hty_b1 := TyAt.own hty_b1 ho hG17 (by decide)
     refine l_q (qas rfl rfl) (l_nil (r_forget [(1, .int _ _), (2, .pointer _), (5, .slice _ _ _), (6, .int _ _)] ⟨rfl, rfl, rfl, rfl, trivial⟩ (fun e18 => (r_inBlock (r_region' (l_q (qmi rfl rfl) (l_q (q_add rfl rfl (by omega) rfl) (l_q (qai rfl rfl) (l_nil ?_)))))))))
     exact ih2 (n + 1, a17, c17, (M ++ L2)) _ _ ⟨⟨rfl, rfl, rfl, (vint_eq (by omega)), trivial⟩, (by omega), (by rw [heardK_succ, List.map_append, hM, hLe]), (rowsI_app hMr hLr), (by rw [List.length_append]; omega), ho17, hb1, hty_b1, hsz, hB⟩ (by first | omega | (dsimp only; omega))
  ·
   replace hc3 := dle hc3
   refine r_exit rfl (r_seq (r_region' (l_q (qms rfl rfl) (l_q (qas rfl rfl) (l_nil (r_ret_ (vs := [.slice _ _ _]) rfl Tryz.func29 rfl (.nil _) ⟨rfl, trivial⟩ ?_))))))
   obtain rfl : n = 5 := by omega
   exact ⟨oa, oc, M, rfl, Row.of_owns ho, hMr.below hB, (by rw [hM]; exact heard_eq hok), Ext.of_below hB⟩
theorem rmasked6_ret (ka : Option Addr) (kc : Nat) (co : List Sg) (er : Int) (sa : Option Addr) (sc : Nat) (se : List Int) (ja : Option Addr) (jc : Nat) (sl : List SN) (ra : Option Addr) (rc : Nat) (rl : List RC) (n : Nat) (w : World) (hlg : LgAt w ka kc co sa sc se ja jc sl ra rc rl) (hbg : LgBig co er se sl rl) (hok : faultM (lg co er se sl rl) = 0) (hn : n < rl.length) : Ret Tryz.prog 30 [.agg ⟨[.slice ka co.length kc, vint er, .slice sa se.length sc, .slice ja sl.length jc, .slice ra rl.length rc]⟩, vint (n : Int)] w (fun v w' => ∃ ra0 rc0, v = .tuple ⟨[.slice ra0 ((maskO (lg co er se sl rl) (rl.getD n rcd0)).getD []).length rc0, .bool ((maskO (lg co er se sl rl) (rl.getD n rcd0)).isSome)]⟩ ∧ Row w' ra0 ((maskO (lg co er se sl rl) (rl.getD n rcd0)).getD []).length rc0 1 (((maskO (lg co er se sl rl) (rl.getD n rcd0)).getD []).map vint) ∧ Ext w w') := by
 obtain ⟨⟨hcn, hcl⟩, hen, hsn, ⟨hjn, hjl⟩, hrn, hrl⟩ := id hbg
 obtain ⟨⟨hs1, hs4⟩, hj8, hr6, hf0, ⟨he0, he3⟩, hsr, hJn, hRn⟩ := lg_ok hok
 have hB := Below.refl w.heap.size w
 have hsz : w.heap.size ≤ w.heap.size := Nat.le_refl _
 refine ret_of_runs (args := [_, _]) Tryz.func30 rfl (Nat.le_of_ble_eq_true rfl) (by kernel_rfl) (r_seq (r_region' (l_o (o_box rfl rfl rfl ?_))))
 intro b1 w1 hzl1 hzr1 _ hb1 hE1
 have hbs_b1 : w.heap.size ≤ b1 := Nat.le_trans hsz hzl1
 replace hB := below_ext hB hE1 hsz
 replace hsz := Nat.le_trans hsz hE1.size
 refine l_q (qas rfl rfl) (l_q (qab rfl rfl) (l_nil (r_seq (r_draw ext_refl' ext_trans' [0, 1, 2, 3, 4, 5, 6, 7, 8] [7] 6 (by kernel_rfl) (by kernel_rfl) ?_))))
 intro w2 _ hE2
 replace hB := below_ext hB hE2 hsz
 replace hb1 := hb1.ext hE2
 replace hsz := Nat.le_trans hsz hE2.size
 refine m_q rfl rfl (fun w' hC' => q_load_agg (n := 5) Tryz.isAgg29 Tryz.sizeOf29 rfl (((hb1.cells' (cs' := [_, _, _, _, _]) 0 5 rfl).ext hC')) rfl rfl) (m_q rfl rfl (fun w' hC' => q_fieldAddr (o' := 4) rfl fld29_4 rfl) (m_q rfl rfl (fun w' hC' => q_load Tryz.isAgg27 rfl (((hb1.has (o := 4) rfl).ext hC')) rfl) (m_q rfl rfl (fun w' hC' => qmi rfl rfl) ?_)))
 obtain ⟨b3, o3, ha3, hh3⟩ := (hlg.rrl.below hB).at (by decide) n (by omega)
 refine m_q rfl rfl (fun w' hC' => q_indexAddr Tryz.underlying27 Tryz.sizeOf61 rfl ha3 rfl (by omega) rfl) (m_q rfl rfl (fun w' hC' => q_fieldAddr (o' := 0) rfl fld61_0 rfl) (m_q rfl rfl (fun w' hC' => q_load Tryz.isAgg3 rfl ((((cells_cast (wide_at RC.len rcd0 _ _ (by omega)) hh3) 0 _ rfl).ext hC')) rfl) (m_o rfl rfl (o_call Tryz.call29 rfl (rheard6_ret ka kc co er sa sc se ja jc sl ra rc rl (((rl).getD n rcd0).h) _ (hlg.below hB) hbg hok) rfl ?_))))
 rintro _ w4 ⟨ta4, tc4, D4, rfl, hrt4, hri4, hD, hE4⟩
 refine ⟨hE4, ?_⟩
 replace hB := below_ext hB hE4 hsz
 replace hb1 := hb1.ext hE4
 replace hsz := Nat.le_trans hsz hE4.size
 refine m_q rfl rfl (fun w' hC' => qas rfl rfl) (m_nil (r_forget [(1, .int _ _), (2, .pointer _), (6, .slice _ _ _)] ⟨rfl, rfl, rfl, trivial⟩ (fun e5 => (r_seq (r_seq ?_)))))
 obtain ⟨hDl, hDx⟩ := tx_two hok hD
 refine r_region' (l_q (qai rfl rfl) (l_nil (r_block (r_rounds (α := Nat) (fun k e wl => Knows e [(1, vint (n : Int)), (2, ptr b1 0), (6, .slice ta4 D4.length tc4), (7, vint (k : Int))] ∧ (k ≤ D4.length) ∧ (rmaskK (lg co er se sl rl) (rl.getD n rcd0) (D4.map (·.xs)) k) ∧ (Blk wl b1 [.slice ka co.length kc, vint er, .slice sa se.length sc, .slice ja sl.length jc, .slice ra rl.length rc]) ∧ (Row wl ta4 D4.length tc4 1 (D4.map SV.enc)) ∧ (RowsI wl D4) ∧ (w.heap.size ≤ wl.heap.size) ∧ (Below w.heap.size w wl)) (fun k => D4.length - k) 0 ?_ ?_))))
 ·
  exact ⟨⟨rfl, rfl, rfl, rfl, trivial⟩, (Nat.zero_le _), (fun i hi => absurd hi (Nat.not_lt_zero _)), hb1, hrt4, hri4, hsz, hB⟩
 ·
  rintro k el6 wl6 ⟨hkn, hkk, hno, hb1, hrt4, hri4, hsz, hB⟩ ih6
  obtain ⟨e6, rfl⟩ := knows_env hkn
  refine r_seq (r_seq (r_region' (l_q (qmi rfl rfl) (l_q (qms rfl rfl) (l_q (q_len rfl Tryz.underlying47 rfl rfl) (l_q (q_lss rfl rfl rfl) (l_nil (r_cond rfl (fun hc7 => ?_) (fun hc7 => ?_)))))))))
  ·
   replace hc7 := dt hc7
   have hkD : k < D4.length := by omega
   have htk := (tx_ok hJn hD hkD).2.1
   refine r_skip (r_seq (r_block (r_seq (r_draw ext_refl' ext_trans' [0, 1, 2, 3, 4, 5, 6] [6] 6 (by kernel_rfl) (by kernel_rfl) ?_))))
   intro w8 _ hE8
   replace hB := below_ext hB hE8 hsz
   replace hb1 := hb1.ext hE8
   replace hrt4 := hrt4.ext hE8
   replace hri4 := hri4.ext hE8
   replace hsz := Nat.le_trans hsz hE8.size
   refine m_q rfl rfl (fun w' hC' => q_load_agg (n := 5) Tryz.isAgg29 Tryz.sizeOf29 rfl (((hb1.cells' (cs' := [_, _, _, _, _]) 0 5 rfl).ext hC')) rfl rfl) (m_q rfl rfl (fun w' hC' => qms rfl rfl) (m_q rfl rfl (fun w' hC' => qmi rfl rfl) ?_))
   have hr10 := hri4.get (i := k) (by omega)
   obtain ⟨b9, o9, ha9, hh9⟩ := hrt4.at1 k ((D4).getD k sv0) (getD_some (by omega))
   refine m_q rfl rfl (fun w' hC' => q_indexAddr1 Tryz.underlying47 Tryz.sizeOf25 rfl ha9 rfl (by omega) rfl) (m_q rfl rfl (fun w' hC' => q_load Tryz.isAgg25 rfl ((hh9.ext hC')) rfl) (m_q rfl rfl (fun w' hC' => qmi rfl rfl) (m_o rfl rfl (o_call Tryz.call72 rfl (rreads6_ret ka kc co er sa sc se ja jc sl ra rc rl (((D4).getD k sv0).a) (((D4).getD k sv0).c) (((D4).getD k sv0).xs) n _ (hlg.below hB) hbg hr10 (by omega) hok hn (tx_ok hJn hD hkD).2.1 (tx_ok hJn hD hkD).2.2) rfl ?_))))
   rintro _ w11 ⟨rfl, hE11⟩
   refine ⟨hE11, ?_⟩
   replace hB := below_ext hB hE11 hsz
   replace hb1 := hb1.ext hE11
   replace hrt4 := hrt4.ext hE11
   replace hri4 := hri4.ext hE11
   replace hsz := Nat.le_trans hsz hE11.size
   refine m_nil (r_forget [(1, .int _ _), (2, .pointer _), (6, .slice _ _ _), (7, .int _ _), (28, .bool _)] ⟨rfl, rfl, rfl, rfl, rfl, trivial⟩ (fun e12 => (r_cond rfl (fun hc13 => ?_) (fun hc13 => ?_))))
   ·
    have g28 := hc13
    refine r_seq (r_region' (l_q (qms rfl rfl) (l_q (qmi rfl rfl) ?_)))
    have hr15 := hri4.get (i := k) (by omega)
    obtain ⟨b14, o14, ha14, hh14⟩ := hrt4.at1 k ((D4).getD k sv0) (getD_some (by omega))
    refine l_q (q_indexAddr1 Tryz.underlying47 Tryz.sizeOf25 rfl ha14 rfl (by omega) rfl) (l_q (q_load Tryz.isAgg25 rfl (hh14) rfl) (l_q (qas rfl rfl) (l_q (qab rfl rfl) (l_nil (r_ret_ (vs := [.slice _ _ _, .bool _]) rfl Tryz.func30 rfl (.nil _) ⟨rfl, rfl, trivial⟩ ?_)))))
    have hm := rmask_yes hD hkD hno g28
    refine ⟨((D4).getD k sv0).a, ((D4).getD k sv0).c, ?_, ?_, Ext.of_below hB⟩ <;> rw [hm]
    · rfl
    · exact hr15
   ·
    have g28 := hc13
    refine r_skip (r_inBlock (r_region' (l_q (qmi rfl rfl) (l_q (q_add rfl rfl (by omega) rfl) (l_q (qai rfl rfl) (l_nil ?_))))))
    exact ih6 (k + 1) _ _ ⟨⟨rfl, rfl, rfl, (vint_eq (by omega)), trivial⟩, (by omega), (fun j hj => by rcases Nat.lt_succ_iff_lt_or_eq.1 hj with h | h; exact hno j h; subst h; rw [svx_getD]; exact g28), hb1, hrt4, hri4, hsz, hB⟩ (by first | omega | (dsimp only; omega))
  ·
   replace hc7 := dlt hc7
   refine r_exit rfl (r_seq (r_region' (l_q (qas rfl rfl) (l_q (qab rfl rfl) (l_nil (r_ret_ (vs := [.slice _ _ _, .bool _]) rfl Tryz.func30 rfl (.nil _) ⟨rfl, rfl, trivial⟩ ?_))))))
   have hm := rmask_none hD (fun j hj => hno j (by omega))
   refine ⟨none, 0, ?_, ?_, Ext.of_below hB⟩ <;> rw [hm]
   · rfl
   · exact Row.nil _ _ _ _
end Go.Proofs.YtekkdhpgcilpdaaGreat
