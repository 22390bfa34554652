/- Contracts. -/
import Derived.Test.YtgdanglidienmaaGreatRP
set_option linter.unusedVariables false
set_option linter.unusedSimpArgs false
namespace Go.Proofs.YtgdanglidienmaaGreat
open Go Go.RowKit Go.Gv Go.Fl

theorem okNeed_t {n : Int} (h : 0 ≤ n ∧ n ≤ 2) : okNeed n = true := by unfold okNeed; rw [decide_eq_true h.1, decide_eq_true h.2]; rfl
theorem okNeed_f {n : Int} (h : n < 0 ∨ 2 < n) : okNeed n = false := by unfold okNeed; rw [Bool.and_eq_false_iff, decide_eq_false_iff_not, decide_eq_false_iff_not]; omega
theorem okPerson_t {n : Nat} {x : PV} (h : (x.ab.length : Int) = n ∧ (0 ≤ x.r ∧ x.r ≤ 5) ∧ 0 ≤ x.m ∧ x.m ≤ 5) : okPerson n x.pn = true := by unfold okPerson PV.pn; simp only [Bool.and_eq_true, decide_eq_true_eq]; omega
theorem okPerson_f {n : Nat} {x : PV} (h : ¬ ((x.ab.length : Int) = n ∧ (0 ≤ x.r ∧ x.r ≤ 5) ∧ 0 ≤ x.m ∧ x.m ≤ 5)) : okPerson n x.pn = false := by
  rw [← Bool.not_eq_true]; intro h2; apply h; unfold okPerson PV.pn at h2; simp only [Bool.and_eq_true, decide_eq_true_eq] at h2; omega
theorem illIn_t {n : Nat} {x : Int} (h : -1 ≤ x ∧ x ≤ (n : Int) - 1) : illIn n x = true := by unfold illIn; rw [decide_eq_true h.1, decide_eq_true h.2]; rfl
theorem illIn_f {n : Nat} {x : Int} (h : x < -1 ∨ (n : Int) - 1 < x) : illIn n x = false := by unfold illIn; rw [Bool.and_eq_false_iff, decide_eq_false_iff_not, decide_eq_false_iff_not]; omega
theorem okIll_t {n k : Nat} {l : List Int} (h : (l.length : Int) = k) (h2 : ∀ m, m < l.length → illIn n (l.getD m 0) = true) : okIll n k l = true := by unfold okIll; rw [decide_eq_true h, all_getD (d := 0) h2]; rfl
theorem okIll_f1 {n k : Nat} {l : List Int} (h : ¬ (l.length : Int) = k) : okIll n k l = false := by unfold okIll; rw [decide_eq_false h]; rfl
theorem okIll_f2 {n k j : Nat} {l : List Int} (h : j < l.length) (h2 : illIn n (l.getD j 0) = false) : okIll n k l = false := by unfold okIll; rw [all_bad h h2, Bool.and_false]
theorem rAt_t {xs : List Int} {be : Int} {k : Nat} (hla : -1 ≤ lastAt xs k) (h : (0 ≤ xs.getD k 0 ∧ xs.getD k 0 ≤ be - 1)) (h2 : 0 < k → xs.getD (k - 1) 0 < xs.getD k 0) : rAt xs be k = true := by
  unfold rAt
  rw [decide_eq_true h.2, Bool.and_true, decide_eq_true_eq]
  cases k with
  | zero => show -1 + 1 ≤ _; omega
  | succ k => have := h2 (by omega); show xs.getD k 0 + 1 ≤ _; rw [Nat.add_sub_cancel] at this; omega
theorem rAt_f1 {xs : List Int} {be : Int} {k : Nat} (hla : -1 ≤ lastAt xs k) (h : xs.getD k 0 < 0 ∨ be - 1 < xs.getD k 0) : rAt xs be k = false := by
  unfold rAt
  rw [Bool.and_eq_false_iff, decide_eq_false_iff_not, decide_eq_false_iff_not]; omega
theorem rAt_f2 {xs : List Int} {be : Int} {k : Nat} (hk : 0 < k) (h : xs.getD k 0 ≤ xs.getD (k - 1) 0) : rAt xs be k = false := by
  obtain ⟨j, rfl⟩ : ∃ j, k = j + 1 := ⟨k - 1, by omega⟩
  rw [Nat.add_sub_cancel] at h
  unfold rAt
  rw [Bool.and_eq_false_iff, decide_eq_false_iff_not]; left
  show ¬ xs.getD j 0 + 1 ≤ _; omega
theorem ris_bad {xs : List Int} {be : Int} {k : Nat} (hk : k < xs.length) (h : rAt xs be k = false) : risB xs be = false := List.all_eq_false.2 ⟨k, List.mem_range.2 hk, by rw [h]; decide⟩
theorem ris_all {xs : List Int} {be : Int} (h : ∀ k, k < xs.length → rAt xs be k = true) : risB xs be = true := List.all_eq_true.2 fun k hk => h k (List.mem_range.1 hk)
/-- a rota -/
def isRB (nd : List Int) (n : Nat) (T : List (List Int)) : Bool := decide ((T.length : Int) = (nd.length : Int)) && T.all (fun l => risB l (n : Int))
theorem isRB_iff {nd : List Int} {n : Nat} {T : List (List Int)} : isRB nd n T = true ↔ IsR nd n T := by
  unfold isRB IsR
  rw [Bool.and_eq_true, decide_eq_true_eq, List.all_eq_true]
  exact ⟨fun h => ⟨by omega, h.2⟩, fun h => ⟨by omega, h.2⟩⟩
theorem isRB_no {nd : List Int} {n k : Nat} {R : List SV} (hk : k < R.length) (h : risB (R.getD k sv0).xs (n : Int) = false) : isRB nd n (R.map (·.xs)) = false := by
  unfold isRB
  rw [xs_all, all_bad (d := sv0) (p := fun s : SV => risB s.xs (n : Int)) hk h, Bool.and_false]
theorem isRB_yes {nd : List Int} {n : Nat} {R : List SV} (h : ∀ k, k < R.length → risB (R.getD k sv0).xs (n : Int) = true) : isRB nd n (R.map (·.xs)) = decide ((R.length : Int) = (nd.length : Int)) := by
  unfold isRB
  rw [xs_all, all_getD (d := sv0) (p := fun s : SV => risB s.xs (n : Int)) h, Bool.and_true, List.length_map]
theorem plan_isRB {nd : List Int} {pl : List PV} {L : List SV} {T : List (List Int)} : planP (po nd pl L) T = if ¬ faultP (po nd pl L) = 0 then faultP (po nd pl L) else if isRB nd pl.length T = true then 0 else 2 := by
  unfold planP isRB po
  simp only [List.length_map]
def okB (x : PV) (i : Nat) (R : List SV) (a b : Nat) : Bool := !hasI (R.getD b sv0).xs (i : Int) || decide (x.r ≤ (a : Int) - (b : Int) - 1)
section
variable {x : PV} {i a b : Nat} {R : List SV}
theorem okB_no (h : hasI (R.getD b sv0).xs (i : Int) = false) : okB x i R a b = true := by unfold okB; rw [h]; rfl
theorem okB_ok (h : x.r ≤ (a : Int) - (b : Int) - 1) : okB x i R a b = true := by unfold okB; rw [decide_eq_true h, Bool.or_true]
theorem okB_f (h : hasI (R.getD b sv0).xs (i : Int) = true) (h2 : (a : Int) - (b : Int) - 1 < x.r) : okB x i R a b = false := by unfold okB; rw [h, decide_eq_false (by omega)]; rfl
theorem okA_eq : okA x i (R.map (·.xs)) a = (!hasI (R.getD a sv0).xs (i : Int) || (x.ab.getD a false && (List.range a).all (okB x i R a))) := by
  unfold okA okB
  simp only [xs_at]
theorem okA_skip (h : hasI (R.getD a sv0).xs (i : Int) = false) : okA x i (R.map (·.xs)) a = true := by rw [okA_eq, h]; rfl
theorem okA_yes (h : hasI (R.getD a sv0).xs (i : Int) = true) (h2 : x.ab.getD a false = true) (h3 : ∀ b, b < a → okB x i R a b = true) : okA x i (R.map (·.xs)) a = true := by
  rw [okA_eq, h, h2, List.all_eq_true.2 (fun b hb => h3 b (List.mem_range.1 hb))]; rfl
theorem okA_f1 (h : hasI (R.getD a sv0).xs (i : Int) = true) (h2 : x.ab.getD a false = false) : okA x i (R.map (·.xs)) a = false := by rw [okA_eq, h, h2]; rfl
theorem okA_f2 (h : hasI (R.getD a sv0).xs (i : Int) = true) (hb : b < a) (h2 : okB x i R a b = false) : okA x i (R.map (·.xs)) a = false := by
  rw [okA_eq, h, List.all_eq_false.2 ⟨b, List.mem_range.2 hb, by rw [h2]; decide⟩, Bool.and_false]; rfl
theorem cnt_one : cntA i ((R.map (·.xs)).take (a + 1)) = cntA i ((R.map (·.xs)).take a) + (if a < R.length ∧ hasI (R.getD a sv0).xs (i : Int) = true then 1 else 0) := by
  by_cases ha : a < R.length
  · rw [xs_take ha, cnt_app]
    rw [cnt_sing]
    by_cases hh : hasI (R.getD a sv0).xs (i : Int) = true
    · rw [if_pos hh, if_pos ⟨ha, hh⟩]
    · rw [if_neg hh, if_neg (fun h => hh h.2)]
  · rw [if_neg (fun h => ha h.1), List.take_of_length_le (by rw [List.length_map]; omega), List.take_of_length_le (by rw [List.length_map]; omega)]; rfl
theorem cnt_yes (ha : a < R.length) (h : hasI (R.getD a sv0).xs (i : Int) = true) : ((cntA i ((R.map (·.xs)).take a) : Nat) : Int) + 1 = ((cntA i ((R.map (·.xs)).take (a + 1)) : Nat) : Int) := by
  rw [cnt_one, if_pos ⟨ha, h⟩]; omega
theorem cnt_no (ha : a < R.length) (h : hasI (R.getD a sv0).xs (i : Int) = false) : ((cntA i ((R.map (·.xs)).take a) : Nat) : Int) = ((cntA i ((R.map (·.xs)).take (a + 1)) : Nat) : Int) := by
  rw [cnt_one, if_neg (by rw [h]; exact fun h => by cases h.2)]; rfl
theorem cnt_bnd (_ha : a < R.length) (h : cntA i ((R.map (·.xs)).take a) ≤ a) : cntA i ((R.map (·.xs)).take (a + 1)) ≤ a + 1 := by
  rw [cnt_one]; split <;> omega
theorem cnt_all (h : R.length ≤ a) : cntA i ((R.map (·.xs)).take a) = cntA i (R.map (·.xs)) := by rw [List.take_of_length_le (by rw [List.length_map]; exact h)]
theorem perX_t (h : ∀ a, a < R.length → okA x i (R.map (·.xs)) a = true) (h2 : ((cntA i (R.map (·.xs)) : Nat) : Int) ≤ x.m) : perX x i (R.map (·.xs)) = true := by
  unfold perX
  rw [List.all_eq_true.2 (fun a ha => h a (by have := List.mem_range.1 ha; rwa [List.length_map] at this)), decide_eq_true h2]; rfl
theorem perX_f1 (ha : a < R.length) (h : okA x i (R.map (·.xs)) a = false) : perX x i (R.map (·.xs)) = false := by
  unfold perX
  rw [List.all_eq_false.2 ⟨a, List.mem_range.2 (by rw [List.length_map]; exact ha), by rw [h]; decide⟩]; rfl
theorem perX_f2 (h : x.m < ((cntA i (R.map (·.xs)) : Nat) : Int)) : perX x i (R.map (·.xs)) = false := by
  unfold perX
  rw [decide_eq_false (by omega), Bool.and_false]
theorem rulesX_f {pl : List PV} {T : List (List Int)} (hi : i < pl.length) (h : perX (pl.getD i pv0) i T = false) : rulesX pl T = false := List.all_eq_false.2 ⟨i, List.mem_range.2 hi, by rw [h]; decide⟩
theorem rulesX_t {pl : List PV} {T : List (List Int)} (h : ∀ i, i < pl.length → perX (pl.getD i pv0) i T = true) : rulesX pl T = true := List.all_eq_true.2 fun i hi => h i (List.mem_range.1 hi)
end
theorem awkB_t1 {c : Nat} {L : List SV} {ix : List Int} {wt i : Int} (h : L.length ≤ c) : awkB (decide (L.length ≤ c)) ix wt i = true := by unfold awkB; rw [decide_eq_true h]; rfl
theorem awkB_t2 {b : Bool} {ix : List Int} {wt i : Int} (h : ix.getD i.toNat 0 = -1 ∨ wt < ix.getD i.toNat 0) : awkB b ix wt i = true := by
  unfold awkB
  rcases h with h | h
  · rw [decide_eq_true h]; simp
  · rw [decide_eq_true h]; simp
theorem awkB_f {c : Nat} {L : List SV} {ix : List Int} {wt i : Int} (h : c < L.length) (h1 : ¬ ix.getD i.toNat 0 = -1) (h2 : ix.getD i.toNat 0 ≤ wt) : awkB (decide (L.length ≤ c)) ix wt i = false := by unfold awkB; rw [decide_eq_false (by omega), decide_eq_false h1, decide_eq_false (by omega)]; rfl
theorem awk_full {nn : Bool} {ix xs : List Int} {wt : Int} {j : Nat} (h : xs.length ≤ j) : awkN nn ix wt (xs.take j) = awkN nn ix wt xs := by rw [List.take_of_length_le h]
section
variable {nd : List Int} {R L : List SV} {c k : Nat}
theorem failX_eq : failX nd (R.map (·.xs)) (L.map (·.xs)) c = idxI (fun k => decide (awkN (decide (L.length ≤ c)) (L.getD c sv0).xs (k : Int) (R.getD k sv0).xs < nd.getD k 0)) R.length := by
  unfold failX
  simp only [xs_at, List.length_map]
theorem failX_at (hk : k < R.length) (hq : ∀ j, j < k → decide (awkN (decide (L.length ≤ c)) (L.getD c sv0).xs (j : Int) (R.getD j sv0).xs < nd.getD j 0) = false) (h : decide (awkN (decide (L.length ≤ c)) (L.getD c sv0).xs (k : Int) (R.getD k sv0).xs < nd.getD k 0) = true) : failX nd (R.map (·.xs)) (L.map (·.xs)) c = (k : Int) := by
  rw [failX_eq]
  exact idxI_found (p := fun k => decide (awkN (decide (L.length ≤ c)) (L.getD c sv0).xs (k : Int) (R.getD k sv0).xs < nd.getD k 0)) hk h hq
theorem failX_no (hq : ∀ j, j < R.length → decide (awkN (decide (L.length ≤ c)) (L.getD c sv0).xs (j : Int) (R.getD j sv0).xs < nd.getD j 0) = false) : failX nd (R.map (·.xs)) (L.map (·.xs)) c = -1 := by
  rw [failX_eq]
  exact idxI_none (p := fun k => decide (awkN (decide (L.length ≤ c)) (L.getD c sv0).xs (k : Int) (R.getD k sv0).xs < nd.getD k 0)) hq
end
theorem safeX_f {nd : List Int} {pl : List PV} {C T : List (List Int)} {c : Nat} (hc : c ≤ C.length) (h : 0 ≤ failX nd T C c) : safeX nd pl C T = false := by
  unfold safeX
  rw [List.all_eq_false.2 ⟨c, List.mem_range.2 (by omega), by rw [decide_eq_false (by omega)]; decide⟩]; rfl
theorem safeX_t {nd : List Int} {pl : List PV} {C T : List (List Int)} (h : ∀ c, c < C.length + 1 → failX nd T C c < 0) : safeX nd pl C T = rulesX pl T := by
  unfold safeX
  rw [List.all_eq_true.2 (fun c hc => decide_eq_true (h c (List.mem_range.1 hc)))]; rfl
theorem dut_step {R : List SV} {k : Nat} (hk : k < R.length) : dut ((R.map (·.xs)).take k) + ((R.getD k sv0).xs.length : Int) = dut ((R.map (·.xs)).take (k + 1)) := by
  rw [xs_take hk]
  unfold dut
  rw [List.flatten_append, List.length_append]; simp
section
variable {R Q : List SV} {k : Nat}
theorem smB_two (hR : k < R.length) (hQ : k < Q.length) : smB ((R.map (·.xs)).drop k) ((Q.map (·.xs)).drop k) = if (ltL (R.getD k sv0).xs (Q.getD k sv0).xs || ltL (Q.getD k sv0).xs (R.getD k sv0).xs) = true then ltL (R.getD k sv0).xs (Q.getD k sv0).xs else smB ((R.map (·.xs)).drop (k + 1)) ((Q.map (·.xs)).drop (k + 1)) := by
  rw [drop_getD (d := []) (by rw [List.length_map]; exact hR), drop_getD (d := []) (l := Q.map (·.xs)) (by rw [List.length_map]; exact hQ), xs_at, xs_at, smB]
theorem smB_next (hR : k < R.length) (hQ : k < Q.length) (h1 : ltL (R.getD k sv0).xs (Q.getD k sv0).xs = false) (h2 : ltL (Q.getD k sv0).xs (R.getD k sv0).xs = false) : smB ((R.map (·.xs)).drop k) ((Q.map (·.xs)).drop k) = smB ((R.map (·.xs)).drop (k + 1)) ((Q.map (·.xs)).drop (k + 1)) := by
  rw [smB_two hR hQ, h1, h2]; rfl
theorem smB_at1 (hR : k < R.length) (hQ : k < Q.length) (h1 : ltL (R.getD k sv0).xs (Q.getD k sv0).xs = true) : smB ((R.map (·.xs)).drop k) ((Q.map (·.xs)).drop k) = ltL (R.getD k sv0).xs (Q.getD k sv0).xs := by
  rw [smB_two hR hQ, h1]; rfl
theorem smB_at2 (hR : k < R.length) (hQ : k < Q.length) (h1 : ltL (Q.getD k sv0).xs (R.getD k sv0).xs = true) : smB ((R.map (·.xs)).drop k) ((Q.map (·.xs)).drop k) = ltL (R.getD k sv0).xs (Q.getD k sv0).xs := by
  rw [smB_two hR hQ, h1, Bool.or_true, if_pos rfl]
theorem smB_end (h : R.length ≤ k ∨ Q.length ≤ k) : smB ((R.map (·.xs)).drop k) ((Q.map (·.xs)).drop k) = false := by
  rcases h with h | h
  · rw [List.drop_eq_nil_of_le (by rw [List.length_map]; exact h)]; rfl
  · rw [show (Q.map (·.xs)).drop k = [] from List.drop_eq_nil_of_le (by rw [List.length_map]; exact h)]
    cases (R.map (·.xs)).drop k <;> rfl
end

theorem fld26_0 (w : World) (b o : Nat) : (Instr.fieldAt 26 (ptr b o) 0).run Tryz.prog w = .ok (ptr b (o + 0)) w := by
  simp [Instr.fieldAt, run_underlying Tryz.underlying26, fieldPlace, Instr.sureAddr, Tryz.sizeOf22, Addr.add_lit]
theorem fld26_1 (w : World) (b o : Nat) : (Instr.fieldAt 26 (ptr b o) 1).run Tryz.prog w = .ok (ptr b (o + 1)) w := by
  simp [Instr.fieldAt, run_underlying Tryz.underlying26, fieldPlace, Instr.sureAddr, Tryz.sizeOf23, Addr.add_lit]
theorem fld26_2 (w : World) (b o : Nat) : (Instr.fieldAt 26 (ptr b o) 2).run Tryz.prog w = .ok (ptr b (o + 2)) w := by
  simp [Instr.fieldAt, run_underlying Tryz.underlying26, fieldPlace, Instr.sureAddr, Tryz.sizeOf24, Addr.add_lit]
theorem fld119_0 (w : World) (b o : Nat) : (Instr.fieldAt 119 (ptr b o) 0).run Tryz.prog w = .ok (ptr b (o + 0)) w := by
  simp [Instr.fieldAt, run_underlying Tryz.underlying119, fieldPlace, Instr.sureAddr, Tryz.sizeOf111, Addr.add_lit]
theorem fld119_1 (w : World) (b o : Nat) : (Instr.fieldAt 119 (ptr b o) 1).run Tryz.prog w = .ok (ptr b (o + 1)) w := by
  simp [Instr.fieldAt, run_underlying Tryz.underlying119, fieldPlace, Instr.sureAddr, Tryz.sizeOf3, Addr.add_lit]
theorem fld119_2 (w : World) (b o : Nat) : (Instr.fieldAt 119 (ptr b o) 2).run Tryz.prog w = .ok (ptr b (o + 2)) w := by
  simp [Instr.fieldAt, run_underlying Tryz.underlying119, fieldPlace, Instr.sureAddr, Tryz.sizeOf3, Addr.add_lit]
theorem fault10_ret (na : Option Addr) (nc : Nat) (nd : List Int) (pa : Option Addr) (pc : Nat) (pl : List PV) (ca : Option Addr) (cc : Nat) (L : List SV) (w : World) (hpo : PoAt w na nc nd pa pc pl ca cc L) (hnl : nd.length ≤ 2097152) (hpll : pl.length ≤ 2097152) (hLl : L.length ≤ 2097152) (hLs : ∀ s ∈ L, s.xs.length ≤ 2097152) : Ret Tryz.prog 65 [.agg ⟨[.slice na nd.length nc, .slice pa pl.length pc, .slice ca L.length cc]⟩] w (fun v w' => v = vint (faultP (po nd pl L)) ∧ Ext w w') := by
 have hB := Below.refl w.heap.size w
 have hsz : w.heap.size ≤ w.heap.size := Nat.le_refl _
 refine ret_of_runs (args := [_]) Tryz.func65 rfl (Nat.le_of_ble_eq_true rfl) (by kernel_rfl) ?_
 refine r_seq (r_region' ?_)
 refine l_o (o_box rfl rfl rfl ?_)
 intro b1 w1 hzl1 hzr1 _ hb1 hE1
 have hbs_b1 : w.heap.size ≤ b1 := Nat.le_trans hsz hzl1
 replace hB := below_ext hB hE1 hsz
 replace hsz := Nat.le_trans hsz hE1.size
 refine l_q (q_assign (v := .int _ _) rfl rfl) ?_
 refine l_nil (r_seq (r_seq (r_region' ?_)))
 refine l_q (q_fieldAddr (o' := 0) rfl fld26_0 rfl) ?_
 refine l_q (q_load Tryz.isAgg22 rfl ((hb1.has (o := 0) rfl)) rfl) ?_
 refine l_q (q_len rfl Tryz.underlying22 rfl rfl) ?_
 refine l_q (q_gtr rfl rfl rfl) ?_
 refine l_q (q_move (v := .bool _) rfl rfl) ?_
 refine l_part 12 rfl (fun hc2 => ?_) (fun hc2 => ?_)
 ·
  replace hc2 := dt hc2
  have g12 := hc2
  refine l_q (q_skip rfl) ?_
  refine l_q (q_skip rfl) ?_
  refine l_q (q_skip rfl) ?_
  refine l_q (q_skip rfl) ?_
  refine l_q (q_pick_t (v := .bool _) rfl rfl rfl) ?_
  refine l_q (q_move (v := .bool _) rfl rfl) ?_
  refine l_q (q_skip rfl) ?_
  refine l_q (q_skip rfl) ?_
  refine l_q (q_skip rfl) ?_
  refine l_q (q_skip rfl) ?_
  refine l_q (q_pick_t (v := .bool _) rfl rfl rfl) ?_
  refine l_nil ?_
  refine r_forget [(1, .pointer _), (23, .bool _)] ⟨rfl, rfl, trivial⟩ (fun e3 => ?_)
  refine r_cond_t rfl ?_
  refine r_seq (r_region' ?_)
  refine l_q (q_assign (v := .int _ _) rfl rfl) ?_
  refine l_nil ?_
  refine r_ret_ (vs := [.int _ _]) rfl Tryz.func65 rfl (.nil _) ⟨rfl, trivial⟩ ?_
  exact ⟨vint_eq (fault_3 (by omega)).symm, Ext.of_below hB⟩
 ·
  replace hc2 := dlt hc2
  have g12 := hc2
  refine l_q (q_fieldAddr (o' := 1) rfl fld26_1 rfl) ?_
  refine l_q (q_load Tryz.isAgg23 rfl ((hb1.has (o := 1) rfl)) rfl) ?_
  refine l_q (q_len rfl Tryz.underlying23 rfl rfl) ?_
  refine l_q (q_gtr rfl rfl rfl) ?_
  refine l_q (q_pick_f (v := .bool _) rfl rfl rfl) ?_
  refine l_q (q_move (v := .bool _) rfl rfl) ?_
  refine l_part 18 rfl (fun hc4 => ?_) (fun hc4 => ?_)
  ·
   replace hc4 := dt hc4
   have g18 := hc4
   refine l_q (q_skip rfl) ?_
   refine l_q (q_skip rfl) ?_
   refine l_q (q_skip rfl) ?_
   refine l_q (q_skip rfl) ?_
   refine l_q (q_pick_t (v := .bool _) rfl rfl rfl) ?_
   refine l_nil ?_
   refine r_forget [(1, .pointer _), (23, .bool _)] ⟨rfl, rfl, trivial⟩ (fun e5 => ?_)
   refine r_cond_t rfl ?_
   refine r_seq (r_region' ?_)
   refine l_q (q_assign (v := .int _ _) rfl rfl) ?_
   refine l_nil ?_
   refine r_ret_ (vs := [.int _ _]) rfl Tryz.func65 rfl (.nil _) ⟨rfl, trivial⟩ ?_
   exact ⟨vint_eq (fault_3 (by omega)).symm, Ext.of_below hB⟩
  ·
   replace hc4 := dlt hc4
   have g18 := hc4
   refine l_q (q_fieldAddr (o' := 2) rfl fld26_2 rfl) ?_
   refine l_q (q_load Tryz.isAgg24 rfl ((hb1.has (o := 2) rfl)) rfl) ?_
   refine l_q (q_len rfl Tryz.underlying24 rfl rfl) ?_
   refine l_q (q_gtr rfl rfl rfl) ?_
   refine l_q (q_pick_f (v := .bool _) rfl rfl rfl) ?_
   refine l_nil ?_
   refine r_forget [(1, .pointer _), (23, .bool _)] ⟨rfl, rfl, trivial⟩ (fun e6 => ?_)
   refine r_cond rfl (fun hc7 => ?_) (fun hc7 => ?_)
   ·
    replace hc7 := dt hc7
    have g23 := hc7
    refine r_seq (r_region' ?_)
    refine l_q (q_assign (v := .int _ _) rfl rfl) ?_
    refine l_nil ?_
    refine r_ret_ (vs := [.int _ _]) rfl Tryz.func65 rfl (.nil _) ⟨rfl, trivial⟩ ?_
    exact ⟨vint_eq (fault_3 (by omega)).symm, Ext.of_below hB⟩
   ·
    replace hc7 := dlt hc7
    have g23 := hc7
    refine r_skip (r_seq (r_seq (r_region' ?_)))
    refine l_q (q_fieldAddr (o' := 0) rfl fld26_0 rfl) ?_
    refine l_q (q_load Tryz.isAgg22 rfl ((hb1.has (o := 0) rfl)) rfl) ?_
    refine l_q (q_len rfl Tryz.underlying22 rfl rfl) ?_
    refine l_q (q_eql rfl rfl rfl) ?_
    refine l_q (q_move (v := .bool _) rfl rfl) ?_
    refine l_part 28 rfl (fun hc8 => ?_) (fun hc8 => ?_)
    ·
     replace hc8 := dt hc8
     have g28 := hc8
     refine l_q (q_skip rfl) ?_
     refine l_q (q_skip rfl) ?_
     refine l_q (q_skip rfl) ?_
     refine l_q (q_skip rfl) ?_
     refine l_q (q_pick_t (v := .bool _) rfl rfl rfl) ?_
     refine l_nil ?_
     refine r_forget [(1, .pointer _), (33, .bool _)] ⟨rfl, rfl, trivial⟩ (fun e9 => ?_)
     refine r_cond_t rfl ?_
     refine r_seq (r_region' ?_)
     refine l_q (q_assign (v := .int _ _) rfl rfl) ?_
     refine l_nil ?_
     refine r_ret_ (vs := [.int _ _]) rfl Tryz.func65 rfl (.nil _) ⟨rfl, trivial⟩ ?_
     exact ⟨vint_eq (fault_1 (by omega) (fun ⟨⟨⟨⟨h1, h2⟩, h3⟩, h4⟩, h5⟩ => by omega)).symm, Ext.of_below hB⟩
    ·
     replace hc8 := df hc8
     have g28 := hc8
     refine l_q (q_fieldAddr (o' := 1) rfl fld26_1 rfl) ?_
     refine l_q (q_load Tryz.isAgg23 rfl ((hb1.has (o := 1) rfl)) rfl) ?_
     refine l_q (q_len rfl Tryz.underlying23 rfl rfl) ?_
     refine l_q (q_eql rfl rfl rfl) ?_
     refine l_q (q_pick_f (v := .bool _) rfl rfl rfl) ?_
     refine l_nil ?_
     refine r_forget [(1, .pointer _), (33, .bool _)] ⟨rfl, rfl, trivial⟩ (fun e10 => ?_)
     refine r_cond rfl (fun hc11 => ?_) (fun hc11 => ?_)
     ·
      replace hc11 := dt hc11
      have g33 := hc11
      refine r_seq (r_region' ?_)
      refine l_q (q_assign (v := .int _ _) rfl rfl) ?_
      refine l_nil ?_
      refine r_ret_ (vs := [.int _ _]) rfl Tryz.func65 rfl (.nil _) ⟨rfl, trivial⟩ ?_
      exact ⟨vint_eq (fault_1 (by omega) (fun ⟨⟨⟨⟨h1, h2⟩, h3⟩, h4⟩, h5⟩ => by omega)).symm, Ext.of_below hB⟩
     ·
      replace hc11 := df hc11
      have g33 := hc11
      refine r_skip (r_seq (r_seq (r_region' ?_)))
      refine l_q (q_assign (v := .int _ _) rfl rfl) ?_
      refine l_nil (r_block ?_)
      refine r_rounds (α := Nat) (fun k e wl => Knows e [(1, ptr b1 0), (3, vint (k : Int))] ∧ (k ≤ nd.length) ∧ (∀ j, j < k → okNeed (nd.getD j 0) = true) ∧ (Blk wl b1 [.slice na nd.length nc, .slice pa pl.length pc, .slice ca L.length cc]) ∧ (w.heap.size ≤ wl.heap.size) ∧ (Below w.heap.size w wl)) (fun k => nd.length - k) 0 ?_ ?_
      ·
       exact ⟨⟨rfl, rfl, trivial⟩, (Nat.zero_le _), (fun i hi => absurd hi (Nat.not_lt_zero _)), hb1, hsz, hB⟩
      ·
       rintro k el12 wl12 ⟨hkn, hkk, hq, hb1, hsz, hB⟩ ih12
       obtain ⟨e12, rfl⟩ := knows_env hkn
       refine r_seq (r_seq (r_region' ?_))
       refine l_q (q_move (v := .int _ _) rfl rfl) ?_
       refine l_q (q_fieldAddr (o' := 0) rfl fld26_0 rfl) ?_
       refine l_q (q_load Tryz.isAgg22 rfl ((hb1.has (o := 0) rfl)) rfl) ?_
       refine l_q (q_len rfl Tryz.underlying22 rfl rfl) ?_
       refine l_q (q_lss rfl rfl rfl) ?_
       refine l_nil ?_
       refine r_cond rfl (fun hc13 => ?_) (fun hc13 => ?_)
       ·
        replace hc13 := dt hc13
        have hkn : k < nd.length := by omega
        refine r_skip (r_seq (r_block (r_seq (r_region' ?_))))
        refine l_q (q_fieldAddr (o' := 0) rfl fld26_0 rfl) ?_
        refine l_q (q_load Tryz.isAgg22 rfl ((hb1.has (o := 0) rfl)) rfl) ?_
        refine l_q (q_move (v := .int _ _) rfl rfl) ?_
        obtain ⟨b14, o14, ha14, hh14⟩ := (hpo.rnd.below hB).at1 k ((nd).getD k 0) (getD_some (by omega))
        refine l_q (q_indexAddr1 Tryz.underlying22 Tryz.sizeOf3 rfl ha14 rfl (by omega) rfl) ?_
        refine l_q (q_load Tryz.isAgg3 rfl (hh14) rfl) ?_
        refine l_o (o_call Tryz.call96 rfl (in10_ret _ _ _ _) rfl ?_)
        rintro _ w15 ⟨rfl, rfl⟩
        refine l_q (q_not rfl rfl) ?_
        refine l_nil ?_
        refine r_forget [(1, .pointer _), (3, .int _ _), (47, .bool _)] ⟨rfl, rfl, rfl, trivial⟩ (fun e16 => ?_)
        refine r_cond rfl (fun hc17 => ?_) (fun hc17 => ?_)
        ·
         replace hc17 := b2f (nt hc17)
         have g47 := hc17
         refine r_seq (r_region' ?_)
         refine l_q (q_assign (v := .int _ _) rfl rfl) ?_
         refine l_nil ?_
         refine r_ret_ (vs := [.int _ _]) rfl Tryz.func65 rfl (.nil _) ⟨rfl, trivial⟩ ?_
         exact ⟨vint_eq (fault_1 (by omega) (fun ⟨⟨⟨⟨h1, h2⟩, h3⟩, h4⟩, h5⟩ => by rw [all_bad (d := 0) hkn (okNeed_f (by omega))] at h3; cases h3)).symm, Ext.of_below hB⟩
        ·
         replace hc17 := b2t (nf hc17)
         have g47 := hc17
         refine r_skip (r_inBlock (r_region' ?_))
         refine l_q (q_move (v := .int _ _) rfl rfl) ?_
         refine l_q (q_add rfl rfl (by omega) rfl) ?_
         refine l_q (q_assign (v := .int _ _) rfl rfl) ?_
         refine l_nil ?_
         exact ih12 (k + 1) _ _ ⟨⟨rfl, by first | rfl | exact vint_eq (by omega), trivial⟩, (by omega), (fun j hj => by rcases Nat.lt_succ_iff_lt_or_eq.1 hj with h | h; exact hq j h; subst h; exact okNeed_t (by omega)), hb1, hsz, hB⟩ (by first | omega | (dsimp only; omega))
       ·
        replace hc13 := dlt hc13
        refine r_exit rfl ?_
        refine r_seq (r_seq (r_region' ?_))
        refine l_q (q_assign (v := .int _ _) rfl rfl) ?_
        refine l_nil (r_block ?_)
        refine r_rounds (α := Nat) (fun k e wl => Knows e [(1, ptr b1 0), (4, vint (k : Int))] ∧ (k ≤ pl.length) ∧ (∀ j, j < k → okPerson nd.length (pl.getD j pv0).pn = true) ∧ (Blk wl b1 [.slice na nd.length nc, .slice pa pl.length pc, .slice ca L.length cc]) ∧ (w.heap.size ≤ wl.heap.size) ∧ (Below w.heap.size w wl)) (fun k => pl.length - k) 0 ?_ ?_
        ·
         exact ⟨⟨rfl, rfl, trivial⟩, (Nat.zero_le _), (fun i hi => absurd hi (Nat.not_lt_zero _)), hb1, hsz, hB⟩
        ·
         rintro k el18 wl18 ⟨hkn, hkk, hq2, hb1, hsz, hB⟩ ih18
         obtain ⟨e18, rfl⟩ := knows_env hkn
         refine r_seq (r_seq (r_region' ?_))
         refine l_q (q_move (v := .int _ _) rfl rfl) ?_
         refine l_q (q_fieldAddr (o' := 1) rfl fld26_1 rfl) ?_
         refine l_q (q_load Tryz.isAgg23 rfl ((hb1.has (o := 1) rfl)) rfl) ?_
         refine l_q (q_len rfl Tryz.underlying23 rfl rfl) ?_
         refine l_q (q_lss rfl rfl rfl) ?_
         refine l_nil ?_
         refine r_cond rfl (fun hc19 => ?_) (fun hc19 => ?_)
         ·
          replace hc19 := dt hc19
          have hkp : k < pl.length := by omega
          refine r_skip (r_seq (r_block (r_seq (r_region' ?_))))
          refine l_q (q_fieldAddr (o' := 1) rfl fld26_1 rfl) ?_
          refine l_q (q_load Tryz.isAgg23 rfl ((hb1.has (o := 1) rfl)) rfl) ?_
          refine l_q (q_move (v := .int _ _) rfl rfl) ?_
          obtain ⟨b20, o20, ha20, hh20⟩ := (hpo.rpl.below hB).at (by decide) k (by omega)
          refine l_q (q_indexAddr Tryz.underlying23 Tryz.sizeOf119 rfl ha20 rfl (by omega) rfl) ?_
          refine l_q (q_load_agg (cs := [.slice (((pl).getD k pv0).a) (((pl).getD k pv0).ab.length) (((pl).getD k pv0).c), vint (((pl).getD k pv0).r), vint (((pl).getD k pv0).m)]) (n := 3) Tryz.isAgg119 Tryz.sizeOf119 rfl ((cells_cast (wide_at PV.len pv0 _ _ (by omega)) hh20)) rfl rfl) ?_
          refine l_o (o_alloc Tryz.zeroValue119 rfl rfl ?_)
          intro b21 w21 hzl21 hzr21 _ hb21 hE21
          have hne_b1_b21 : b1 ≠ b21 := by have := hb1.lt; omega
          have hbs_b21 : w.heap.size ≤ b21 := Nat.le_trans hsz hzl21
          replace hB := below_ext hB hE21 hsz
          replace hb1 := hb1.ext hE21
          replace hsz := Nat.le_trans hsz hE21.size
          refine l_o (o_store (vs := [.slice (((pl).getD k pv0).a) (((pl).getD k pv0).ab.length) (((pl).getD k pv0).c), vint (((pl).getD k pv0).r), vint (((pl).getD k pv0).m)]) (cs' := [.slice (((pl).getD k pv0).a) (((pl).getD k pv0).ab.length) (((pl).getD k pv0).c), vint (((pl).getD k pv0).r), vint (((pl).getD k pv0).m)]) Tryz.sizeOf119 rfl rfl rfl rfl hb21 (Nat.le_of_ble_eq_true rfl) rfl rfl ?_)
          intro w22 hz22 hb21 hG22
          replace hB := below_upd hB hG22 hsz (by omega)
          replace hsz : w.heap.size ≤ w22.heap.size := by rw [hz22]; exact hsz
          replace hb1 := hb1.upd hG22 (by omega)
          refine l_nil ?_
          refine r_forget [(1, .pointer _), (4, .int _ _), (5, .pointer _)] ⟨rfl, rfl, rfl, trivial⟩ (fun e23 => ?_)
          refine r_seq (r_region' ?_)
          refine l_q (q_fieldAddr (o' := 0) rfl fld119_0 rfl) ?_
          refine l_q (q_load Tryz.isAgg111 rfl ((hb21.has (o := 0) rfl)) rfl) ?_
          refine l_q (q_len rfl Tryz.underlying111 rfl rfl) ?_
          refine l_q (q_fieldAddr (o' := 0) rfl fld26_0 rfl) ?_
          refine l_q (q_load Tryz.isAgg22 rfl ((hb1.has (o := 0) rfl)) rfl) ?_
          refine l_q (q_len rfl Tryz.underlying22 rfl rfl) ?_
          refine l_q (q_neq rfl rfl rfl) ?_
          refine l_q (q_move (v := .bool _) rfl rfl) ?_
          refine l_part 67 rfl (fun hc24 => ?_) (fun hc24 => ?_)
          ·
           replace hc24 := df (nt hc24)
           have g67 := hc24
           refine l_q (q_skip rfl) ?_
           refine l_q (q_skip rfl) ?_
           refine l_q (q_skip rfl) ?_
           refine l_q (q_skip rfl) ?_
           refine l_q (q_pick_t (v := .bool _) rfl rfl rfl) ?_
           refine l_q (q_move (v := .bool _) rfl rfl) ?_
           refine l_q (q_skip rfl) ?_
           refine l_q (q_skip rfl) ?_
           refine l_q (q_skip rfl) ?_
           refine l_q (q_skip rfl) ?_
           refine l_q (q_pick_t (v := .bool _) rfl rfl rfl) ?_
           refine l_nil ?_
           refine r_forget [(1, .pointer _), (4, .int _ _), (78, .bool _)] ⟨rfl, rfl, rfl, trivial⟩ (fun e25 => ?_)
           refine r_cond_t rfl ?_
           refine r_seq (r_region' ?_)
           refine l_q (q_assign (v := .int _ _) rfl rfl) ?_
           refine l_nil ?_
           refine r_ret_ (vs := [.int _ _]) rfl Tryz.func65 rfl (.nil _) ⟨rfl, trivial⟩ ?_
           exact ⟨vint_eq (fault_1 (by omega) (fun ⟨⟨⟨⟨h1, h2⟩, h3⟩, h4⟩, h5⟩ => by rw [all_bad (d := pv0) (p := fun x : PV => okPerson nd.length x.pn) hkp (okPerson_f (by omega))] at h4; cases h4)).symm, Ext.of_below hB⟩
          ·
           replace hc24 := dt (nf hc24)
           have g67 := hc24
           refine l_q (q_fieldAddr (o' := 1) rfl fld119_1 rfl) ?_
           refine l_q (q_load Tryz.isAgg3 rfl ((hb21.has (o := 1) rfl)) rfl) ?_
           refine l_o (o_call Tryz.call96 rfl (in10_ret _ _ _ _) rfl ?_)
           rintro _ w26 ⟨rfl, rfl⟩
           refine l_q (q_not rfl rfl) ?_
           refine l_q (q_pick_f (v := .bool _) rfl rfl rfl) ?_
           refine l_q (q_move (v := .bool _) rfl rfl) ?_
           refine l_part 73 rfl (fun hc27 => ?_) (fun hc27 => ?_)
           ·
            replace hc27 := b2f (nt hc27)
            have g73 := hc27
            refine l_q (q_skip rfl) ?_
            refine l_q (q_skip rfl) ?_
            refine l_q (q_skip rfl) ?_
            refine l_q (q_skip rfl) ?_
            refine l_q (q_pick_t (v := .bool _) rfl rfl rfl) ?_
            refine l_nil ?_
            refine r_forget [(1, .pointer _), (4, .int _ _), (78, .bool _)] ⟨rfl, rfl, rfl, trivial⟩ (fun e28 => ?_)
            refine r_cond_t rfl ?_
            refine r_seq (r_region' ?_)
            refine l_q (q_assign (v := .int _ _) rfl rfl) ?_
            refine l_nil ?_
            refine r_ret_ (vs := [.int _ _]) rfl Tryz.func65 rfl (.nil _) ⟨rfl, trivial⟩ ?_
            exact ⟨vint_eq (fault_1 (by omega) (fun ⟨⟨⟨⟨h1, h2⟩, h3⟩, h4⟩, h5⟩ => by rw [all_bad (d := pv0) (p := fun x : PV => okPerson nd.length x.pn) hkp (okPerson_f (by omega))] at h4; cases h4)).symm, Ext.of_below hB⟩
           ·
            replace hc27 := b2t (nf hc27)
            have g73 := hc27
            refine l_q (q_fieldAddr (o' := 2) rfl fld119_2 rfl) ?_
            refine l_q (q_load Tryz.isAgg3 rfl ((hb21.has (o := 2) rfl)) rfl) ?_
            refine l_o (o_call Tryz.call96 rfl (in10_ret _ _ _ _) rfl ?_)
            rintro _ w29 ⟨rfl, rfl⟩
            refine l_q (q_not rfl rfl) ?_
            refine l_q (q_pick_f (v := .bool _) rfl rfl rfl) ?_
            refine l_nil ?_
            refine r_forget [(1, .pointer _), (4, .int _ _), (78, .bool _)] ⟨rfl, rfl, rfl, trivial⟩ (fun e30 => ?_)
            refine r_cond rfl (fun hc31 => ?_) (fun hc31 => ?_)
            ·
             replace hc31 := b2f (nt hc31)
             have g78 := hc31
             refine r_seq (r_region' ?_)
             refine l_q (q_assign (v := .int _ _) rfl rfl) ?_
             refine l_nil ?_
             refine r_ret_ (vs := [.int _ _]) rfl Tryz.func65 rfl (.nil _) ⟨rfl, trivial⟩ ?_
             exact ⟨vint_eq (fault_1 (by omega) (fun ⟨⟨⟨⟨h1, h2⟩, h3⟩, h4⟩, h5⟩ => by rw [all_bad (d := pv0) (p := fun x : PV => okPerson nd.length x.pn) hkp (okPerson_f (by omega))] at h4; cases h4)).symm, Ext.of_below hB⟩
            ·
             replace hc31 := b2t (nf hc31)
             have g78 := hc31
             refine r_skip (r_inBlock (r_region' ?_))
             refine l_q (q_move (v := .int _ _) rfl rfl) ?_
             refine l_q (q_add rfl rfl (by omega) rfl) ?_
             refine l_q (q_assign (v := .int _ _) rfl rfl) ?_
             refine l_nil ?_
             exact ih18 (k + 1) _ _ ⟨⟨rfl, by first | rfl | exact vint_eq (by omega), trivial⟩, (by omega), (fun j hj => by rcases Nat.lt_succ_iff_lt_or_eq.1 hj with h | h; exact hq2 j h; subst h; exact okPerson_t (by omega)), hb1, hsz, hB⟩ (by first | omega | (dsimp only; omega))
         ·
          replace hc19 := dlt hc19
          refine r_exit rfl ?_
          refine r_seq (r_seq (r_region' ?_))
          refine l_q (q_assign (v := .int _ _) rfl rfl) ?_
          refine l_nil (r_block ?_)
          refine r_rounds (α := Nat) (fun k e wl => Knows e [(1, ptr b1 0), (6, vint (k : Int))] ∧ (k ≤ L.length) ∧ (∀ j, j < k → okIll nd.length pl.length (L.getD j sv0).xs = true) ∧ (Blk wl b1 [.slice na nd.length nc, .slice pa pl.length pc, .slice ca L.length cc]) ∧ (w.heap.size ≤ wl.heap.size) ∧ (Below w.heap.size w wl)) (fun k => L.length - k) 0 ?_ ?_
          ·
           exact ⟨⟨rfl, rfl, trivial⟩, (Nat.zero_le _), (fun i hi => absurd hi (Nat.not_lt_zero _)), hb1, hsz, hB⟩
          ·
           rintro k el32 wl32 ⟨hkn, hkk, hq3, hb1, hsz, hB⟩ ih32
           obtain ⟨e32, rfl⟩ := knows_env hkn
           refine r_seq (r_seq (r_region' ?_))
           refine l_q (q_move (v := .int _ _) rfl rfl) ?_
           refine l_q (q_fieldAddr (o' := 2) rfl fld26_2 rfl) ?_
           refine l_q (q_load Tryz.isAgg24 rfl ((hb1.has (o := 2) rfl)) rfl) ?_
           refine l_q (q_len rfl Tryz.underlying24 rfl rfl) ?_
           refine l_q (q_lss rfl rfl rfl) ?_
           refine l_nil ?_
           refine r_cond rfl (fun hc33 => ?_) (fun hc33 => ?_)
           ·
            replace hc33 := dt hc33
            have hkL : k < L.length := by omega
            have hks := hLs _ (getD_lt (d := sv0) hkL)
            refine r_skip (r_seq (r_block (r_seq (r_seq ?_))))
            refine r_draw ext_refl' ext_trans' [0, 1, 2, 3, 4, 5, 6, 7, 8, 9] [] 20 (by kernel_rfl) (by kernel_rfl) ?_
            intro w34 _ hE34
            replace hB := below_ext hB hE34 hsz
            replace hb1 := hb1.ext hE34
            replace hsz := Nat.le_trans hsz hE34.size
            refine m_q rfl rfl (fun w' hC' => q_fieldAddr (o' := 2) rfl fld26_2 rfl) ?_
            refine m_q rfl rfl (fun w' hC' => q_load Tryz.isAgg24 rfl (((hb1.has (o := 2) rfl).ext hC')) rfl) ?_
            refine m_q rfl rfl (fun w' hC' => q_move (v := .int _ _) rfl rfl) ?_
            obtain ⟨b35, o35, ha35, hh35⟩ := (hpo.rC.below hB).at1 k ((L).getD k sv0) (getD_some (by omega))
            refine m_q rfl rfl (fun w' hC' => q_indexAddr1 Tryz.underlying24 Tryz.sizeOf22 rfl ha35 rfl (by omega) rfl) ?_
            refine m_q rfl rfl (fun w' hC' => q_load Tryz.isAgg22 rfl ((hh35.ext hC')) rfl) ?_
            refine m_q rfl rfl (fun w' hC' => q_len rfl Tryz.underlying22 rfl rfl) ?_
            refine m_q rfl rfl (fun w' hC' => q_fieldAddr (o' := 1) rfl fld26_1 rfl) ?_
            refine m_q rfl rfl (fun w' hC' => q_load Tryz.isAgg23 rfl (((hb1.has (o := 1) rfl).ext hC')) rfl) ?_
            refine m_q rfl rfl (fun w' hC' => q_len rfl Tryz.underlying23 rfl rfl) ?_
            refine m_q rfl rfl (fun w' hC' => q_neq rfl rfl rfl) ?_
            refine m_nil ?_
            refine r_forget [(1, .pointer _), (6, .int _ _), (95, .bool _)] ⟨rfl, rfl, rfl, trivial⟩ (fun e36 => ?_)
            refine r_cond rfl (fun hc37 => ?_) (fun hc37 => ?_)
            ·
             replace hc37 := df (nt hc37)
             have g95 := hc37
             refine r_seq (r_region' ?_)
             refine l_q (q_assign (v := .int _ _) rfl rfl) ?_
             refine l_nil ?_
             refine r_ret_ (vs := [.int _ _]) rfl Tryz.func65 rfl (.nil _) ⟨rfl, trivial⟩ ?_
             exact ⟨vint_eq (fault_1 (by omega) (fun ⟨⟨⟨⟨h1, h2⟩, h3⟩, h4⟩, h5⟩ => by rw [all_bad (d := sv0) (p := fun s : SV => okIll nd.length pl.length s.xs) hkL (okIll_f1 (by omega))] at h5; cases h5)).symm, Ext.of_below hB⟩
            ·
             replace hc37 := dt (nf hc37)
             have g95 := hc37
             refine r_skip (r_seq (r_region' ?_))
             refine l_q (q_assign (v := .int _ _) rfl rfl) ?_
             refine l_nil (r_block ?_)
             refine r_rounds (α := Nat) (fun j e wl => Knows e [(1, ptr b1 0), (6, vint (k : Int)), (7, vint (j : Int))] ∧ (j ≤ pl.length) ∧ (∀ m, m < j → illIn nd.length ((L.getD k sv0).xs.getD m 0) = true) ∧ (Blk wl b1 [.slice na nd.length nc, .slice pa pl.length pc, .slice ca L.length cc]) ∧ (w.heap.size ≤ wl.heap.size) ∧ (Below w.heap.size w wl)) (fun j => pl.length - j) 0 ?_ ?_
             ·
              exact ⟨⟨rfl, rfl, rfl, trivial⟩, (Nat.zero_le _), (fun i hi => absurd hi (Nat.not_lt_zero _)), hb1, hsz, hB⟩
             ·
              rintro j el38 wl38 ⟨hkn, hkj, hq4, hb1, hsz, hB⟩ ih38
              obtain ⟨e38, rfl⟩ := knows_env hkn
              refine r_seq (r_seq (r_region' ?_))
              refine l_q (q_move (v := .int _ _) rfl rfl) ?_
              refine l_q (q_fieldAddr (o' := 1) rfl fld26_1 rfl) ?_
              refine l_q (q_load Tryz.isAgg23 rfl ((hb1.has (o := 1) rfl)) rfl) ?_
              refine l_q (q_len rfl Tryz.underlying23 rfl rfl) ?_
              refine l_q (q_lss rfl rfl rfl) ?_
              refine l_nil ?_
              refine r_cond rfl (fun hc39 => ?_) (fun hc39 => ?_)
              ·
               replace hc39 := dt hc39
               have hjp : j < pl.length := by omega
               refine r_skip (r_seq (r_block (r_seq ?_)))
               refine r_draw ext_refl' ext_trans' [0, 1, 2, 3, 4, 5, 6, 7, 8, 9, 10, 11, 12, 13] [12] 20 (by kernel_rfl) (by kernel_rfl) ?_
               intro w40 _ hE40
               replace hB := below_ext hB hE40 hsz
               replace hb1 := hb1.ext hE40
               replace hsz := Nat.le_trans hsz hE40.size
               refine m_q rfl rfl (fun w' hC' => q_fieldAddr (o' := 2) rfl fld26_2 rfl) ?_
               refine m_q rfl rfl (fun w' hC' => q_load Tryz.isAgg24 rfl (((hb1.has (o := 2) rfl).ext hC')) rfl) ?_
               refine m_q rfl rfl (fun w' hC' => q_move (v := .int _ _) rfl rfl) ?_
               obtain ⟨b41, o41, ha41, hh41⟩ := (hpo.rC.below hB).at1 k ((L).getD k sv0) (getD_some (by omega))
               refine m_q rfl rfl (fun w' hC' => q_indexAddr1 Tryz.underlying24 Tryz.sizeOf22 rfl ha41 rfl (by omega) rfl) ?_
               refine m_q rfl rfl (fun w' hC' => q_load Tryz.isAgg22 rfl ((hh41.ext hC')) rfl) ?_
               refine m_q rfl rfl (fun w' hC' => q_move (v := .int _ _) rfl rfl) ?_
               obtain ⟨b42, o42, ha42, hh42⟩ := ((RowsI.get (hpo.rCr) (i := k) (by omega)).below hB).at1 j ((((L).getD k sv0).xs).getD j 0) (getD_some (by omega))
               refine m_q rfl rfl (fun w' hC' => q_indexAddr1 Tryz.underlying22 Tryz.sizeOf3 rfl ha42 rfl (by omega) rfl) ?_
               refine m_q rfl rfl (fun w' hC' => q_load Tryz.isAgg3 rfl ((hh42.ext hC')) rfl) ?_
               refine m_q rfl rfl (fun w' hC' => q_fieldAddr (o' := 0) rfl fld26_0 rfl) ?_
               refine m_q rfl rfl (fun w' hC' => q_load Tryz.isAgg22 rfl (((hb1.has (o := 0) rfl).ext hC')) rfl) ?_
               refine m_q rfl rfl (fun w' hC' => q_len rfl Tryz.underlying22 rfl rfl) ?_
               refine m_q rfl rfl (fun w' hC' => q_sub rfl rfl (by omega) rfl) ?_
               refine m_o rfl rfl (o_call Tryz.call96 rfl (in10_ret _ _ _ _) rfl ?_)
               rintro _ w43 ⟨rfl, rfl⟩
               refine ⟨Ext.refl _, ?_⟩
               refine m_q rfl rfl (fun w' hC' => q_not rfl rfl) ?_
               refine m_nil ?_
               refine r_forget [(1, .pointer _), (6, .int _ _), (7, .int _ _), (116, .bool _)] ⟨rfl, rfl, rfl, rfl, trivial⟩ (fun e44 => ?_)
               refine r_cond rfl (fun hc45 => ?_) (fun hc45 => ?_)
               ·
                replace hc45 := b2f (nt hc45)
                have g116 := hc45
                refine r_seq (r_region' ?_)
                refine l_q (q_assign (v := .int _ _) rfl rfl) ?_
                refine l_nil ?_
                refine r_ret_ (vs := [.int _ _]) rfl Tryz.func65 rfl (.nil _) ⟨rfl, trivial⟩ ?_
                exact ⟨vint_eq (fault_1 (by omega) (fun ⟨⟨⟨⟨h1, h2⟩, h3⟩, h4⟩, h5⟩ => by rw [all_bad (d := sv0) (p := fun s : SV => okIll nd.length pl.length s.xs) hkL (okIll_f2 (j := j) (by omega) (illIn_f (by omega)))] at h5; cases h5)).symm, Ext.of_below hB⟩
               ·
                replace hc45 := b2t (nf hc45)
                have g116 := hc45
                refine r_skip (r_inBlock (r_region' ?_))
                refine l_q (q_move (v := .int _ _) rfl rfl) ?_
                refine l_q (q_add rfl rfl (by omega) rfl) ?_
                refine l_q (q_assign (v := .int _ _) rfl rfl) ?_
                refine l_nil ?_
                exact ih38 (j + 1) _ _ ⟨⟨rfl, rfl, by first | rfl | exact vint_eq (by omega), trivial⟩, (by omega), (fun j hj => by rcases Nat.lt_succ_iff_lt_or_eq.1 hj with h | h; exact hq4 j h; subst h; exact illIn_t (by omega)), hb1, hsz, hB⟩ (by first | omega | (dsimp only; omega))
              ·
               replace hc39 := dlt hc39
               refine r_exit rfl ?_
               refine r_inBlock (r_region' ?_)
               refine l_q (q_move (v := .int _ _) rfl rfl) ?_
               refine l_q (q_add rfl rfl (by omega) rfl) ?_
               refine l_q (q_assign (v := .int _ _) rfl rfl) ?_
               refine l_nil ?_
               exact ih32 (k + 1) _ _ ⟨⟨rfl, by first | rfl | exact vint_eq (by omega), trivial⟩, (by omega), (fun j hj => by rcases Nat.lt_succ_iff_lt_or_eq.1 hj with h | h; exact hq3 j h; subst h; exact okIll_t (by omega) (fun m hm => hq4 m (by omega))), hb1, hsz, hB⟩ (by first | omega | (dsimp only; omega))
           ·
            replace hc33 := dlt hc33
            refine r_exit rfl ?_
            refine r_seq (r_region' ?_)
            refine l_q (q_assign (v := .int _ _) rfl rfl) ?_
            refine l_nil ?_
            refine r_ret_ (vs := [.int _ _]) rfl Tryz.func65 rfl (.nil _) ⟨rfl, trivial⟩ ?_
            exact ⟨vint_eq (fault_0 (by omega) ⟨⟨⟨⟨by omega, by omega⟩, all_getD (d := 0) (fun j hj => hq j (by omega))⟩, all_getD (d := pv0) (p := fun x : PV => okPerson nd.length x.pn) (fun j hj => hq2 j (by omega))⟩, all_getD (d := sv0) (p := fun s : SV => okIll nd.length pl.length s.xs) (fun j hj => hq3 j (by omega))⟩).symm, Ext.of_below hB⟩
theorem rising_ret (xa : Option Addr) (xc : Nat) (xs : List Int) (be : Int) (w : World) (hx : Row w xa xs.length xc 1 (xs.map vint)) (hxn : xs.length ≤ 2097152) (hbe : 0 ≤ be ∧ be ≤ 2097152) : Ret Tryz.prog 37 [.slice xa xs.length xc, vint be] w (fun v w' => v = .bool (risB xs be) ∧ Ext w w') := by
 have hB := Below.refl w.heap.size w
 have hsz : w.heap.size ≤ w.heap.size := Nat.le_refl _
 refine ret_of_runs (args := [_, _]) Tryz.func37 rfl (Nat.le_of_ble_eq_true rfl) (by kernel_rfl) ?_
 refine r_seq (r_region' ?_)
 refine l_q (q_assign (v := .bool _) rfl rfl) ?_
 refine l_nil (r_seq (r_seq (r_region' ?_)))
 refine l_q (q_assign (v := .int _ _) rfl rfl) ?_
 refine l_nil (r_block ?_)
 refine r_rounds (α := Nat) (fun k e wl => Knows e [(0, .slice xa xs.length xc), (1, vint be), (5, vint (k : Int))] ∧ (k ≤ xs.length) ∧ (∀ j, j < k → rAt xs be j = true) ∧ (-1 ≤ lastAt xs k) ∧ (w.heap.size ≤ wl.heap.size) ∧ (Below w.heap.size w wl)) (fun k => xs.length - k) 0 ?_ ?_
 ·
  exact ⟨⟨rfl, rfl, rfl, trivial⟩, (Nat.zero_le _), (fun i hi => absurd hi (Nat.not_lt_zero _)), (show (-1 : Int) ≤ -1 from Int.le_refl _), hsz, hB⟩
 ·
  rintro k el1 wl1 ⟨hkn, hkk, hq, hla, hsz, hB⟩ ih1
  obtain ⟨e1, rfl⟩ := knows_env hkn
  refine r_seq (r_seq (r_region' ?_))
  refine l_q (q_move (v := .int _ _) rfl rfl) ?_
  refine l_q (q_move (v := .slice _ _ _) rfl rfl) ?_
  refine l_q (q_len rfl Tryz.underlying22 rfl rfl) ?_
  refine l_q (q_lss rfl rfl rfl) ?_
  refine l_nil ?_
  refine r_cond rfl (fun hc2 => ?_) (fun hc2 => ?_)
  ·
   replace hc2 := dt hc2
   have hkx : k < xs.length := by omega
   refine r_skip (r_seq (r_block (r_seq ?_)))
   refine r_draw ext_refl' ext_trans' [0, 1, 2, 3, 4, 5, 6, 7, 8, 9, 10, 11, 12, 13, 14, 15, 16, 17, 18, 19, 20, 21, 22, 23] [6] 30 (by kernel_rfl) (by kernel_rfl) ?_
   intro w3 _ hE3
   replace hB := below_ext hB hE3 hsz
   replace hsz := Nat.le_trans hsz hE3.size
   refine m_q rfl rfl (fun w' hC' => q_move (v := .slice _ _ _) rfl rfl) ?_
   refine m_q rfl rfl (fun w' hC' => q_move (v := .int _ _) rfl rfl) ?_
   obtain ⟨b4, o4, ha4, hh4⟩ := (hx.below hB).at1 k ((xs).getD k 0) (getD_some (by omega))
   refine m_q rfl rfl (fun w' hC' => q_indexAddr1 Tryz.underlying22 Tryz.sizeOf3 rfl ha4 rfl (by omega) rfl) ?_
   refine m_q rfl rfl (fun w' hC' => q_load Tryz.isAgg3 rfl ((hh4.ext hC')) rfl) ?_
   refine m_q rfl rfl (fun w' hC' => q_move (v := .int _ _) rfl rfl) ?_
   refine m_q rfl rfl (fun w' hC' => q_sub rfl rfl (by omega) rfl) ?_
   refine m_o rfl rfl (o_call Tryz.call96 rfl (in10_ret _ _ _ _) rfl ?_)
   rintro _ w5 ⟨rfl, rfl⟩
   refine ⟨Ext.refl _, ?_⟩
   refine m_q rfl rfl (fun w' hC' => q_not rfl rfl) ?_
   refine m_q rfl rfl (fun w' hC' => q_move (v := .bool _) rfl rfl) ?_
   refine m_part 20 rfl (fun hc6 => ?_) (fun hc6 => ?_)
   ·
    replace hc6 := b2f (nt hc6)
    have g20 := hc6
    refine m_q rfl rfl (fun w' hC' => q_skip rfl) ?_
    refine m_q rfl rfl (fun w' hC' => q_skip rfl) ?_
    refine m_q rfl rfl (fun w' hC' => q_skip rfl) ?_
    refine m_q rfl rfl (fun w' hC' => q_skip rfl) ?_
    refine m_q rfl rfl (fun w' hC' => q_skip rfl) ?_
    refine m_q rfl rfl (fun w' hC' => q_skip rfl) ?_
    refine m_q rfl rfl (fun w' hC' => q_skip rfl) ?_
    refine m_q rfl rfl (fun w' hC' => q_skip rfl) ?_
    refine m_q rfl rfl (fun w' hC' => q_skip rfl) ?_
    refine m_q rfl rfl (fun w' hC' => q_skip rfl) ?_
    refine m_q rfl rfl (fun w' hC' => q_skip rfl) ?_
    refine m_q rfl rfl (fun w' hC' => q_skip rfl) ?_
    refine m_q rfl rfl (fun w' hC' => q_skip rfl) ?_
    refine m_q rfl rfl (fun w' hC' => q_skip rfl) ?_
    refine m_q rfl rfl (fun w' hC' => q_pick_t (v := .bool _) rfl rfl rfl) ?_
    refine m_nil ?_
    refine r_forget [(0, .slice _ _ _), (1, .int _ _), (5, .int _ _), (35, .bool _)] ⟨rfl, rfl, rfl, rfl, trivial⟩ (fun e7 => ?_)
    refine r_cond_t rfl ?_
    refine r_seq (r_region' ?_)
    refine l_q (q_assign (v := .bool _) rfl rfl) ?_
    refine l_nil ?_
    refine r_ret_ (vs := [.bool _]) rfl Tryz.func37 rfl (.nil _) ⟨rfl, trivial⟩ ?_
    exact ⟨vbool_eq (ris_bad hkx (by first | exact rAt_f1 hla (by omega) | exact rAt_f2 (by omega) (by omega))).symm, Ext.of_below hB⟩
   ·
    replace hc6 := b2t (nf hc6)
    have g20 := hc6
    refine m_q rfl rfl (fun w' hC' => q_move (v := .int _ _) rfl rfl) ?_
    refine m_q rfl rfl (fun w' hC' => q_gtr rfl rfl rfl) ?_
    refine m_q rfl rfl (fun w' hC' => q_move (v := .bool _) rfl rfl) ?_
    refine m_part 23 rfl (fun hc8 => ?_) (fun hc8 => ?_)
    ·
     replace hc8 := dt hc8
     have g23 := hc8
     have hk1 : ((k : Int) - 1).toNat = k - 1 := by omega
     refine m_q rfl rfl (fun w' hC' => q_move (v := .slice _ _ _) rfl rfl) ?_
     refine m_q rfl rfl (fun w' hC' => q_move (v := .int _ _) rfl rfl) ?_
     obtain ⟨b9, o9, ha9, hh9⟩ := (hx.below hB).at1 k ((xs).getD k 0) (getD_some (by omega))
     refine m_q rfl rfl (fun w' hC' => q_indexAddr1 Tryz.underlying22 Tryz.sizeOf3 rfl ha9 rfl (by omega) rfl) ?_
     refine m_q rfl rfl (fun w' hC' => q_load Tryz.isAgg3 rfl ((hh9.ext hC')) rfl) ?_
     refine m_q rfl rfl (fun w' hC' => q_move (v := .slice _ _ _) rfl rfl) ?_
     refine m_q rfl rfl (fun w' hC' => q_move (v := .int _ _) rfl rfl) ?_
     refine m_q rfl rfl (fun w' hC' => q_sub rfl rfl (by omega) rfl) ?_
     obtain ⟨b10, o10, ha10, hh10⟩ := (hx.below hB).at1 ((k : Int) - 1).toNat ((xs).getD ((k : Int) - 1).toNat 0) (getD_some (by omega))
     refine m_q rfl rfl (fun w' hC' => q_indexAddr1 Tryz.underlying22 Tryz.sizeOf3 rfl ha10 rfl (by omega) rfl) ?_
     refine m_q rfl rfl (fun w' hC' => q_load Tryz.isAgg3 rfl ((hh10.ext hC')) rfl) ?_
     refine m_q rfl rfl (fun w' hC' => q_leq rfl rfl rfl) ?_
     refine m_q rfl rfl (fun w' hC' => q_pick_t (v := .bool _) rfl rfl rfl) ?_
     refine m_q rfl rfl (fun w' hC' => q_pick_f (v := .bool _) rfl rfl rfl) ?_
     refine m_nil ?_
     refine r_forget [(0, .slice _ _ _), (1, .int _ _), (5, .int _ _), (35, .bool _)] ⟨rfl, rfl, rfl, rfl, trivial⟩ (fun e11 => ?_)
     refine r_cond rfl (fun hc12 => ?_) (fun hc12 => ?_)
     ·
      replace hc12 := dt hc12
      have g35 := hc12
      try rw [hk1] at g35
      refine r_seq (r_region' ?_)
      refine l_q (q_assign (v := .bool _) rfl rfl) ?_
      refine l_nil ?_
      refine r_ret_ (vs := [.bool _]) rfl Tryz.func37 rfl (.nil _) ⟨rfl, trivial⟩ ?_
      exact ⟨vbool_eq (ris_bad hkx (by first | exact rAt_f1 hla (by omega) | exact rAt_f2 (by omega) (by omega))).symm, Ext.of_below hB⟩
     ·
      replace hc12 := dle hc12
      have g35 := hc12
      try rw [hk1] at g35
      refine r_skip (r_inBlock (r_region' ?_))
      refine l_q (q_move (v := .int _ _) rfl rfl) ?_
      refine l_q (q_add rfl rfl (by omega) rfl) ?_
      refine l_q (q_assign (v := .int _ _) rfl rfl) ?_
      refine l_nil ?_
      exact ih1 (k + 1) _ _ ⟨⟨rfl, rfl, by first | rfl | exact vint_eq (by omega), trivial⟩, (by omega), (fun j hj => by rcases Nat.lt_succ_iff_lt_or_eq.1 hj with h | h; exact hq j h; subst h; exact rAt_t hla (by omega) (by omega)), (by show -1 ≤ xs.getD k 0; omega), hsz, hB⟩ (by first | omega | (dsimp only; omega))
    ·
     replace hc8 := dlt hc8
     have g23 := hc8
     refine m_q rfl rfl (fun w' hC' => q_skip rfl) ?_
     refine m_q rfl rfl (fun w' hC' => q_skip rfl) ?_
     refine m_q rfl rfl (fun w' hC' => q_skip rfl) ?_
     refine m_q rfl rfl (fun w' hC' => q_skip rfl) ?_
     refine m_q rfl rfl (fun w' hC' => q_skip rfl) ?_
     refine m_q rfl rfl (fun w' hC' => q_skip rfl) ?_
     refine m_q rfl rfl (fun w' hC' => q_skip rfl) ?_
     refine m_q rfl rfl (fun w' hC' => q_skip rfl) ?_
     refine m_q rfl rfl (fun w' hC' => q_skip rfl) ?_
     refine m_q rfl rfl (fun w' hC' => q_skip rfl) ?_
     refine m_q rfl rfl (fun w' hC' => q_pick_f (v := .bool _) rfl rfl rfl) ?_
     refine m_q rfl rfl (fun w' hC' => q_pick_f (v := .bool _) rfl rfl rfl) ?_
     refine m_nil ?_
     refine r_forget [(0, .slice _ _ _), (1, .int _ _), (5, .int _ _), (35, .bool _)] ⟨rfl, rfl, rfl, rfl, trivial⟩ (fun e13 => ?_)
     refine r_cond_f rfl ?_
     refine r_skip (r_inBlock (r_region' ?_))
     refine l_q (q_move (v := .int _ _) rfl rfl) ?_
     refine l_q (q_add rfl rfl (by omega) rfl) ?_
     refine l_q (q_assign (v := .int _ _) rfl rfl) ?_
     refine l_nil ?_
     exact ih1 (k + 1) _ _ ⟨⟨rfl, rfl, by first | rfl | exact vint_eq (by omega), trivial⟩, (by omega), (fun j hj => by rcases Nat.lt_succ_iff_lt_or_eq.1 hj with h | h; exact hq j h; subst h; exact rAt_t hla (by omega) (by omega)), (by show -1 ≤ xs.getD k 0; omega), hsz, hB⟩ (by first | omega | (dsimp only; omega))
  ·
   replace hc2 := dlt hc2
   refine r_exit rfl ?_
   refine r_seq (r_region' ?_)
   refine l_q (q_assign (v := .bool _) rfl rfl) ?_
   refine l_nil ?_
   refine r_ret_ (vs := [.bool _]) rfl Tryz.func37 rfl (.nil _) ⟨rfl, trivial⟩ ?_
   exact ⟨vbool_eq (ris_all (fun j hj => hq j (by omega))).symm, Ext.of_below hB⟩
theorem isRota_ret (na : Option Addr) (nc : Nat) (nd : List Int) (pa : Option Addr) (pc : Nat) (pl : List PV) (ca : Option Addr) (cc : Nat) (L : List SV) (ra : Option Addr) (rc : Nat) (R : List SV) (w : World) (hpo : PoAt w na nc nd pa pc pl ca cc L) (hnl : nd.length ≤ 2097152) (hpll : pl.length ≤ 2097152) (hLl : L.length ≤ 2097152) (hR : Row w ra R.length rc 1 (R.map SV.enc)) (hRr : RowsI w R) (hRl : R.length ≤ 2097152) (hRx : ∀ s ∈ R, s.xs.length ≤ 2097152) : Ret Tryz.prog 56 [.agg ⟨[.slice na nd.length nc, .slice pa pl.length pc, .slice ca L.length cc]⟩, .slice ra R.length rc] w (fun v w' => v = .bool (isRB nd pl.length (R.map (·.xs))) ∧ Ext w w') := by
 have hB := Below.refl w.heap.size w
 have hsz : w.heap.size ≤ w.heap.size := Nat.le_refl _
 refine ret_of_runs (args := [_, _]) Tryz.func56 rfl (Nat.le_of_ble_eq_true rfl) (by kernel_rfl) ?_
 refine r_seq (r_region' ?_)
 refine l_o (o_box rfl rfl rfl ?_)
 intro b1 w1 hzl1 hzr1 _ hb1 hE1
 have hbs_b1 : w.heap.size ≤ b1 := Nat.le_trans hsz hzl1
 replace hB := below_ext hB hE1 hsz
 replace hsz := Nat.le_trans hsz hE1.size
 refine l_q (q_assign (v := .bool _) rfl rfl) ?_
 refine l_nil (r_seq (r_seq (r_region' ?_)))
 refine l_q (q_assign (v := .int _ _) rfl rfl) ?_
 refine l_nil (r_block ?_)
 refine r_rounds (α := Nat) (fun k e wl => Knows e [(1, .slice ra R.length rc), (2, ptr b1 0), (5, vint (k : Int))] ∧ (k ≤ R.length) ∧ (∀ j, j < k → risB (R.getD j sv0).xs (pl.length : Int) = true) ∧ (Blk wl b1 [.slice na nd.length nc, .slice pa pl.length pc, .slice ca L.length cc]) ∧ (w.heap.size ≤ wl.heap.size) ∧ (Below w.heap.size w wl)) (fun k => R.length - k) 0 ?_ ?_
 ·
  exact ⟨⟨rfl, rfl, rfl, trivial⟩, (Nat.zero_le _), (fun i hi => absurd hi (Nat.not_lt_zero _)), hb1, hsz, hB⟩
 ·
  rintro k el2 wl2 ⟨hkn, hkk, hq, hb1, hsz, hB⟩ ih2
  obtain ⟨e2, rfl⟩ := knows_env hkn
  refine r_seq (r_seq (r_region' ?_))
  refine l_q (q_move (v := .int _ _) rfl rfl) ?_
  refine l_q (q_move (v := .slice _ _ _) rfl rfl) ?_
  refine l_q (q_len rfl Tryz.underlying24 rfl rfl) ?_
  refine l_q (q_lss rfl rfl rfl) ?_
  refine l_nil ?_
  refine r_cond rfl (fun hc3 => ?_) (fun hc3 => ?_)
  ·
   replace hc3 := dt hc3
   have hkR : k < R.length := by omega
   have hkx := hRx _ (getD_lt (d := sv0) hkR)
   refine r_skip (r_seq (r_block (r_seq ?_)))
   refine r_draw ext_refl' ext_trans' [0, 1, 2, 3, 4, 5, 6, 7, 8] [7] 20 (by kernel_rfl) (by kernel_rfl) ?_
   intro w4 _ hE4
   replace hB := below_ext hB hE4 hsz
   replace hb1 := hb1.ext hE4
   replace hsz := Nat.le_trans hsz hE4.size
   refine m_q rfl rfl (fun w' hC' => q_move (v := .slice _ _ _) rfl rfl) ?_
   refine m_q rfl rfl (fun w' hC' => q_move (v := .int _ _) rfl rfl) ?_
   obtain ⟨b5, o5, ha5, hh5⟩ := (hR.below hB).at1 k ((R).getD k sv0) (getD_some (by omega))
   refine m_q rfl rfl (fun w' hC' => q_indexAddr1 Tryz.underlying24 Tryz.sizeOf22 rfl ha5 rfl (by omega) rfl) ?_
   refine m_q rfl rfl (fun w' hC' => q_load Tryz.isAgg22 rfl ((hh5.ext hC')) rfl) ?_
   refine m_q rfl rfl (fun w' hC' => q_fieldAddr (o' := 1) rfl fld26_1 rfl) ?_
   refine m_q rfl rfl (fun w' hC' => q_load Tryz.isAgg23 rfl (((hb1.has (o := 1) rfl).ext hC')) rfl) ?_
   refine m_q rfl rfl (fun w' hC' => q_len rfl Tryz.underlying23 rfl rfl) ?_
   refine m_o rfl rfl (o_call Tryz.call37 rfl (rising_ret _ _ (((R).getD k sv0).xs) _ _ ((RowsI.get (hRr) (i := k) (by omega)).below hB) (by omega) (by omega)) rfl ?_)
   rintro _ w6 ⟨rfl, hE6⟩
   refine ⟨hE6, ?_⟩
   replace hB := below_ext hB hE6 hsz
   replace hb1 := hb1.ext hE6
   replace hsz := Nat.le_trans hsz hE6.size
   refine m_q rfl rfl (fun w' hC' => q_not rfl rfl) ?_
   refine m_nil ?_
   refine r_forget [(1, .slice _ _ _), (2, .pointer _), (5, .int _ _), (20, .bool _)] ⟨rfl, rfl, rfl, rfl, trivial⟩ (fun e7 => ?_)
   refine r_cond rfl (fun hc8 => ?_) (fun hc8 => ?_)
   ·
    replace hc8 := nt hc8
    have g20 := hc8
    refine r_seq (r_region' ?_)
    refine l_q (q_assign (v := .bool _) rfl rfl) ?_
    refine l_nil ?_
    refine r_ret_ (vs := [.bool _]) rfl Tryz.func56 rfl (.nil _) ⟨rfl, trivial⟩ ?_
    exact ⟨vbool_eq (isRB_no hkR g20).symm, Ext.of_below hB⟩
   ·
    replace hc8 := nf hc8
    have g20 := hc8
    refine r_skip (r_inBlock (r_region' ?_))
    refine l_q (q_move (v := .int _ _) rfl rfl) ?_
    refine l_q (q_add rfl rfl (by omega) rfl) ?_
    refine l_q (q_assign (v := .int _ _) rfl rfl) ?_
    refine l_nil ?_
    exact ih2 (k + 1) _ _ ⟨⟨rfl, rfl, by first | rfl | exact vint_eq (by omega), trivial⟩, (by omega), (fun j hj => by rcases Nat.lt_succ_iff_lt_or_eq.1 hj with h | h; exact hq j h; subst h; exact g20), hb1, hsz, hB⟩ (by first | omega | (dsimp only; omega))
  ·
   replace hc3 := dlt hc3
   refine r_exit rfl ?_
   refine r_seq (r_region' ?_)
   refine l_q (q_move (v := .slice _ _ _) rfl rfl) ?_
   refine l_q (q_len rfl Tryz.underlying24 rfl rfl) ?_
   refine l_q (q_fieldAddr (o' := 0) rfl fld26_0 rfl) ?_
   refine l_q (q_load Tryz.isAgg22 rfl ((hb1.has (o := 0) rfl)) rfl) ?_
   refine l_q (q_len rfl Tryz.underlying22 rfl rfl) ?_
   refine l_q (q_eql rfl rfl rfl) ?_
   refine l_q (q_assign (v := .bool _) rfl rfl) ?_
   refine l_nil ?_
   refine r_forget [(4, .bool _)] ⟨rfl, trivial⟩ (fun e9 => ?_)
   refine r_ret_ (vs := [.bool _]) rfl Tryz.func56 rfl (.nil _) ⟨rfl, trivial⟩ ?_
   exact ⟨vbool_eq (isRB_yes (fun j hj => hq j (by omega))).symm, Ext.of_below hB⟩
theorem rules10_ret (na : Option Addr) (nc : Nat) (nd : List Int) (pa : Option Addr) (pc : Nat) (pl : List PV) (ca : Option Addr) (cc : Nat) (L : List SV) (ra : Option Addr) (rc : Nat) (R : List SV) (w : World) (hpo : PoAt w na nc nd pa pc pl ca cc L) (hok : faultP (po nd pl L) = 0) (hR : Row w ra R.length rc 1 (R.map SV.enc)) (hRr : RowsI w R) (hRl : R.length ≤ 2097152) (hRx : ∀ s ∈ R, s.xs.length ≤ 2097152) (hRn : R.length ≤ nd.length) : Ret Tryz.prog 24 [.agg ⟨[.slice na nd.length nc, .slice pa pl.length pc, .slice ca L.length cc]⟩, .slice ra R.length rc] w (fun v w' => v = .bool (rulesX pl (R.map (·.xs))) ∧ Ext w w') := by
 obtain ⟨⟨hn1, hn5⟩, ⟨hp1, hp4⟩, hL4, hnn, hpp, hLL⟩ := po_ok hok
 have hB := Below.refl w.heap.size w
 have hsz : w.heap.size ≤ w.heap.size := Nat.le_refl _
 refine ret_of_runs (args := [_, _]) Tryz.func24 rfl (Nat.le_of_ble_eq_true rfl) (by kernel_rfl) ?_
 refine r_seq (r_region' ?_)
 refine l_o (o_box rfl rfl rfl ?_)
 intro b1 w1 hzl1 hzr1 _ hb1 hE1
 have hbs_b1 : w.heap.size ≤ b1 := Nat.le_trans hsz hzl1
 replace hB := below_ext hB hE1 hsz
 replace hsz := Nat.le_trans hsz hE1.size
 refine l_q (q_assign (v := .bool _) rfl rfl) ?_
 refine l_nil (r_seq (r_seq (r_region' ?_)))
 refine l_q (q_assign (v := .int _ _) rfl rfl) ?_
 refine l_nil (r_block ?_)
 refine r_rounds (α := Nat) (fun i e wl => Knows e [(1, .slice ra R.length rc), (2, ptr b1 0), (5, vint (i : Int))] ∧ (i ≤ pl.length) ∧ (∀ j, j < i → perX (pl.getD j pv0) j (R.map (·.xs)) = true) ∧ (Blk wl b1 [.slice na nd.length nc, .slice pa pl.length pc, .slice ca L.length cc]) ∧ (w.heap.size ≤ wl.heap.size) ∧ (Below w.heap.size w wl)) (fun i => pl.length - i) 0 ?_ ?_
 ·
  exact ⟨⟨rfl, rfl, rfl, trivial⟩, (Nat.zero_le _), (fun i hi => absurd hi (Nat.not_lt_zero _)), hb1, hsz, hB⟩
 ·
  rintro i el2 wl2 ⟨hkn, hki, hq, hb1, hsz, hB⟩ ih2
  obtain ⟨e2, rfl⟩ := knows_env hkn
  refine r_seq (r_seq (r_region' ?_))
  refine l_q (q_move (v := .int _ _) rfl rfl) ?_
  refine l_q (q_fieldAddr (o' := 1) rfl fld26_1 rfl) ?_
  refine l_q (q_load Tryz.isAgg23 rfl ((hb1.has (o := 1) rfl)) rfl) ?_
  refine l_q (q_len rfl Tryz.underlying23 rfl rfl) ?_
  refine l_q (q_lss rfl rfl rfl) ?_
  refine l_nil ?_
  refine r_cond rfl (fun hc3 => ?_) (fun hc3 => ?_)
  ·
   replace hc3 := dt hc3
   have hil : i < pl.length := by omega
   have hpi := hpp _ (getD_lt (d := pv0) hil)
   refine r_skip (r_seq (r_block (r_seq (r_region' ?_))))
   refine l_q (q_assign (v := .int _ _) rfl rfl) ?_
   refine l_nil (r_seq (r_seq (r_region' ?_)))
   refine l_q (q_assign (v := .int _ _) rfl rfl) ?_
   refine l_nil (r_block ?_)
   refine r_rounds (α := Nat) (fun a e wl => Knows e [(1, .slice ra R.length rc), (2, ptr b1 0), (5, vint (i : Int)), (6, vint ((cntA i ((R.map (·.xs)).take a) : Nat) : Int)), (7, vint (a : Int))] ∧ (a ≤ R.length) ∧ (∀ j, j < a → okA (pl.getD i pv0) i (R.map (·.xs)) j = true) ∧ (cntA i ((R.map (·.xs)).take a) ≤ a) ∧ (Blk wl b1 [.slice na nd.length nc, .slice pa pl.length pc, .slice ca L.length cc]) ∧ (w.heap.size ≤ wl.heap.size) ∧ (Below w.heap.size w wl)) (fun a => R.length - a) 0 ?_ ?_
   ·
    exact ⟨⟨rfl, rfl, rfl, rfl, rfl, trivial⟩, (Nat.zero_le _), (fun i hi => absurd hi (Nat.not_lt_zero _)), (Nat.zero_le _), hb1, hsz, hB⟩
   ·
    rintro a el4 wl4 ⟨hkn, hka, hqa, hcb, hb1, hsz, hB⟩ ih4
    obtain ⟨e4, rfl⟩ := knows_env hkn
    refine r_seq (r_seq (r_region' ?_))
    refine l_q (q_move (v := .int _ _) rfl rfl) ?_
    refine l_q (q_move (v := .slice _ _ _) rfl rfl) ?_
    refine l_q (q_len rfl Tryz.underlying24 rfl rfl) ?_
    refine l_q (q_lss rfl rfl rfl) ?_
    refine l_nil ?_
    refine r_cond rfl (fun hc5 => ?_) (fun hc5 => ?_)
    ·
     replace hc5 := dt hc5
     have haR : a < R.length := by omega
     have hax := hRx _ (getD_lt (d := sv0) haR)
     refine r_skip (r_seq (r_block (r_seq (r_seq (r_region' ?_)))))
     refine l_q (q_move (v := .slice _ _ _) rfl rfl) ?_
     refine l_q (q_move (v := .int _ _) rfl rfl) ?_
     obtain ⟨b6, o6, ha6, hh6⟩ := (hR.below hB).at1 a ((R).getD a sv0) (getD_some (by omega))
     refine l_q (q_indexAddr1 Tryz.underlying24 Tryz.sizeOf22 rfl ha6 rfl (by omega) rfl) ?_
     refine l_q (q_load Tryz.isAgg22 rfl (hh6) rfl) ?_
     refine l_q (q_move (v := .int _ _) rfl rfl) ?_
     refine l_o (o_call Tryz.call44 rfl (has10_ret _ _ (((R).getD a sv0).xs) (i : Int) _ ((RowsI.get (hRr) (i := a) (by omega)).below hB) (by omega)) rfl ?_)
     rintro _ w7 ⟨rfl, hE7⟩
     replace hB := below_ext hB hE7 hsz
     replace hb1 := hb1.ext hE7
     replace hsz := Nat.le_trans hsz hE7.size
     refine l_q (q_not rfl rfl) ?_
     refine l_nil ?_
     refine r_forget [(1, .slice _ _ _), (2, .pointer _), (5, .int _ _), (6, .int _ _), (7, .int _ _), (28, .bool _)] ⟨rfl, rfl, rfl, rfl, rfl, rfl, trivial⟩ (fun e8 => ?_)
     refine r_cond rfl (fun hc9 => ?_) (fun hc9 => ?_)
     ·
      replace hc9 := nt hc9
      have hh := hc9
      refine r_exit rfl ?_
      refine r_region' ?_
      refine l_q (q_move (v := .int _ _) rfl rfl) ?_
      refine l_q (q_add rfl rfl (by omega) rfl) ?_
      refine l_q (q_assign (v := .int _ _) rfl rfl) ?_
      refine l_nil ?_
      exact ih4 (a + 1) _ _ ⟨⟨rfl, rfl, rfl, (vint_eq (by first | exact cnt_yes haR hh | exact cnt_no haR hh)), (vint_eq (by omega)), trivial⟩, (by omega), (fun j hj => by rcases Nat.lt_succ_iff_lt_or_eq.1 hj with h | h; exact hqa j h; subst h; first | exact okA_skip hh | exact okA_yes hh g40 (fun b2 hb2 => hqb b2 (by omega))), (cnt_bnd haR hcb), hb1, hsz, hB⟩ (by first | omega | (dsimp only; omega))
     ·
      replace hc9 := nf hc9
      have hh := hc9
      refine r_skip (r_seq (r_region' ?_))
      refine l_q (q_move (v := .int _ _) rfl rfl) ?_
      refine l_q (q_add rfl rfl (by omega) rfl) ?_
      refine l_q (q_assign (v := .int _ _) rfl rfl) ?_
      refine l_nil (r_seq (r_seq (r_region' ?_)))
      refine l_q (q_fieldAddr (o' := 1) rfl fld26_1 rfl) ?_
      refine l_q (q_load Tryz.isAgg23 rfl ((hb1.has (o := 1) rfl)) rfl) ?_
      refine l_q (q_move (v := .int _ _) rfl rfl) ?_
      obtain ⟨b10, o10, ha10, hh10⟩ := (hpo.rpl.below hB).at (by decide) i (by omega)
      refine l_q (q_indexAddr Tryz.underlying23 Tryz.sizeOf119 rfl ha10 rfl (by omega) rfl) ?_
      refine l_q (q_fieldAddr (o' := 0) rfl fld119_0 rfl) ?_
      refine l_q (q_load Tryz.isAgg111 rfl (((cells_cast (wide_at PV.len pv0 _ _ (by omega)) hh10) 0 _ rfl)) rfl) ?_
      refine l_q (q_move (v := .int _ _) rfl rfl) ?_
      obtain ⟨b11, o11, ha11, hh11⟩ := ((RowsP.get (hpo.rplr) (i := i) (by omega)).below hB).at1 a ((((pl).getD i pv0).ab).getD a false) (getD_some (by omega))
      refine l_q (q_indexAddr1 Tryz.underlying111 Tryz.sizeOf4 rfl ha11 rfl (by omega) rfl) ?_
      refine l_q (q_load Tryz.isAgg4 rfl (hh11) rfl) ?_
      refine l_q (q_not rfl rfl) ?_
      refine l_nil ?_
      refine r_forget [(1, .slice _ _ _), (2, .pointer _), (5, .int _ _), (6, .int _ _), (7, .int _ _), (40, .bool _)] ⟨rfl, rfl, rfl, rfl, rfl, rfl, trivial⟩ (fun e12 => ?_)
      refine r_cond rfl (fun hc13 => ?_) (fun hc13 => ?_)
      ·
       replace hc13 := nt hc13
       have g40 := hc13
       refine r_seq (r_region' ?_)
       refine l_q (q_assign (v := .bool _) rfl rfl) ?_
       refine l_nil ?_
       refine r_ret_ (vs := [.bool _]) rfl Tryz.func24 rfl (.nil _) ⟨rfl, trivial⟩ ?_
       exact ⟨vbool_eq (rulesX_f hil (perX_f1 haR (okA_f1 hh g40))).symm, Ext.of_below hB⟩
      ·
       replace hc13 := nf hc13
       have g40 := hc13
       refine r_skip (r_seq (r_region' ?_))
       refine l_q (q_assign (v := .int _ _) rfl rfl) ?_
       refine l_nil (r_block ?_)
       refine r_rounds (α := Nat) (fun b e wl => Knows e [(1, .slice ra R.length rc), (2, ptr b1 0), (5, vint (i : Int)), (6, vint (((cntA i ((R.map (·.xs)).take a) : Nat) : Int) + 1)), (7, vint (a : Int)), (8, vint (b : Int))] ∧ (b ≤ a) ∧ (∀ j, j < b → okB (pl.getD i pv0) i R a j = true) ∧ (Blk wl b1 [.slice na nd.length nc, .slice pa pl.length pc, .slice ca L.length cc]) ∧ (w.heap.size ≤ wl.heap.size) ∧ (Below w.heap.size w wl)) (fun b => a - b) 0 ?_ ?_
       ·
        exact ⟨⟨rfl, rfl, rfl, rfl, rfl, rfl, trivial⟩, (Nat.zero_le _), (fun i hi => absurd hi (Nat.not_lt_zero _)), hb1, hsz, hB⟩
       ·
        rintro b el14 wl14 ⟨hkn, hkb, hqb, hb1, hsz, hB⟩ ih14
        obtain ⟨e14, rfl⟩ := knows_env hkn
        refine r_seq (r_seq (r_region' ?_))
        refine l_q (q_move (v := .int _ _) rfl rfl) ?_
        refine l_q (q_move (v := .int _ _) rfl rfl) ?_
        refine l_q (q_lss rfl rfl rfl) ?_
        refine l_nil ?_
        refine r_cond rfl (fun hc15 => ?_) (fun hc15 => ?_)
        ·
         replace hc15 := dt hc15
         have hba : b < a := by omega
         have hbx := hRx _ (getD_lt (l := R) (d := sv0) (i := b) (by omega))
         refine r_skip (r_seq (r_block (r_seq (r_region' ?_))))
         refine l_q (q_move (v := .slice _ _ _) rfl rfl) ?_
         refine l_q (q_move (v := .int _ _) rfl rfl) ?_
         obtain ⟨b16, o16, ha16, hh16⟩ := (hR.below hB).at1 b ((R).getD b sv0) (getD_some (by omega))
         refine l_q (q_indexAddr1 Tryz.underlying24 Tryz.sizeOf22 rfl ha16 rfl (by omega) rfl) ?_
         refine l_q (q_load Tryz.isAgg22 rfl (hh16) rfl) ?_
         refine l_q (q_move (v := .int _ _) rfl rfl) ?_
         refine l_o (o_call Tryz.call44 rfl (has10_ret _ _ (((R).getD b sv0).xs) (i : Int) _ ((RowsI.get (hRr) (i := b) (by omega)).below hB) (by omega)) rfl ?_)
         rintro _ w17 ⟨rfl, hE17⟩
         replace hB := below_ext hB hE17 hsz
         replace hb1 := hb1.ext hE17
         replace hsz := Nat.le_trans hsz hE17.size
         refine l_q (q_move (v := .bool _) rfl rfl) ?_
         refine l_part 52 rfl (fun hc18 => ?_) (fun hc18 => ?_)
         ·
          have gb := hc18
          refine l_q (q_move (v := .int _ _) rfl rfl) ?_
          refine l_q (q_move (v := .int _ _) rfl rfl) ?_
          refine l_q (q_sub rfl rfl (by omega) rfl) ?_
          refine l_q (q_sub rfl rfl (by omega) rfl) ?_
          refine l_q (q_fieldAddr (o' := 1) rfl fld26_1 rfl) ?_
          refine l_q (q_load Tryz.isAgg23 rfl ((hb1.has (o := 1) rfl)) rfl) ?_
          refine l_q (q_move (v := .int _ _) rfl rfl) ?_
          obtain ⟨b19, o19, ha19, hh19⟩ := (hpo.rpl.below hB).at (by decide) i (by omega)
          refine l_q (q_indexAddr Tryz.underlying23 Tryz.sizeOf119 rfl ha19 rfl (by omega) rfl) ?_
          refine l_q (q_fieldAddr (o' := 1) rfl fld119_1 rfl) ?_
          refine l_q (q_load Tryz.isAgg3 rfl (((cells_cast (wide_at PV.len pv0 _ _ (by omega)) hh19) 1 _ rfl)) rfl) ?_
          refine l_q (q_lss rfl rfl rfl) ?_
          refine l_q (q_pick_t (v := .bool _) rfl rfl rfl) ?_
          refine l_nil ?_
          refine r_forget [(1, .slice _ _ _), (2, .pointer _), (5, .int _ _), (6, .int _ _), (7, .int _ _), (8, .int _ _), (64, .bool _)] ⟨rfl, rfl, rfl, rfl, rfl, rfl, rfl, trivial⟩ (fun e20 => ?_)
          refine r_cond rfl (fun hc21 => ?_) (fun hc21 => ?_)
          ·
           replace hc21 := dt hc21
           have g64 := hc21
           refine r_seq (r_region' ?_)
           refine l_q (q_assign (v := .bool _) rfl rfl) ?_
           refine l_nil ?_
           refine r_ret_ (vs := [.bool _]) rfl Tryz.func24 rfl (.nil _) ⟨rfl, trivial⟩ ?_
           exact ⟨vbool_eq (rulesX_f hil (perX_f1 haR (okA_f2 hh hba (okB_f gb (by omega))))).symm, Ext.of_below hB⟩
          ·
           replace hc21 := dlt hc21
           have g64 := hc21
           refine r_skip (r_inBlock (r_region' ?_))
           refine l_q (q_move (v := .int _ _) rfl rfl) ?_
           refine l_q (q_add rfl rfl (by omega) rfl) ?_
           refine l_q (q_assign (v := .int _ _) rfl rfl) ?_
           refine l_nil ?_
           exact ih14 (b + 1) _ _ ⟨⟨rfl, rfl, rfl, rfl, rfl, by first | rfl | exact vint_eq (by omega), trivial⟩, (by omega), (fun j hj => by rcases Nat.lt_succ_iff_lt_or_eq.1 hj with h | h; exact hqb j h; subst h; first | exact okB_no gb | exact okB_ok (by omega)), hb1, hsz, hB⟩ (by first | omega | (dsimp only; omega))
         ·
          have gb := hc18
          refine l_q (q_skip rfl) ?_
          refine l_q (q_skip rfl) ?_
          refine l_q (q_skip rfl) ?_
          refine l_q (q_skip rfl) ?_
          refine l_q (q_skip rfl) ?_
          refine l_q (q_skip rfl) ?_
          refine l_q (q_skip rfl) ?_
          refine l_q (q_skip rfl) ?_
          refine l_q (q_skip rfl) ?_
          refine l_q (q_skip rfl) ?_
          refine l_q (q_skip rfl) ?_
          refine l_q (q_pick_f (v := .bool _) rfl rfl rfl) ?_
          refine l_nil ?_
          refine r_forget [(1, .slice _ _ _), (2, .pointer _), (5, .int _ _), (6, .int _ _), (7, .int _ _), (8, .int _ _), (64, .bool _)] ⟨rfl, rfl, rfl, rfl, rfl, rfl, rfl, trivial⟩ (fun e22 => ?_)
          refine r_cond_f rfl ?_
          refine r_skip (r_inBlock (r_region' ?_))
          refine l_q (q_move (v := .int _ _) rfl rfl) ?_
          refine l_q (q_add rfl rfl (by omega) rfl) ?_
          refine l_q (q_assign (v := .int _ _) rfl rfl) ?_
          refine l_nil ?_
          exact ih14 (b + 1) _ _ ⟨⟨rfl, rfl, rfl, rfl, rfl, by first | rfl | exact vint_eq (by omega), trivial⟩, (by omega), (fun j hj => by rcases Nat.lt_succ_iff_lt_or_eq.1 hj with h | h; exact hqb j h; subst h; first | exact okB_no gb | exact okB_ok (by omega)), hb1, hsz, hB⟩ (by first | omega | (dsimp only; omega))
        ·
         replace hc15 := dlt hc15
         refine r_exit rfl ?_
         refine r_inBlock (r_region' ?_)
         refine l_q (q_move (v := .int _ _) rfl rfl) ?_
         refine l_q (q_add rfl rfl (by omega) rfl) ?_
         refine l_q (q_assign (v := .int _ _) rfl rfl) ?_
         refine l_nil ?_
         exact ih4 (a + 1) _ _ ⟨⟨rfl, rfl, rfl, (vint_eq (by first | exact cnt_yes haR hh | exact cnt_no haR hh)), (vint_eq (by omega)), trivial⟩, (by omega), (fun j hj => by rcases Nat.lt_succ_iff_lt_or_eq.1 hj with h | h; exact hqa j h; subst h; first | exact okA_skip hh | exact okA_yes hh g40 (fun b2 hb2 => hqb b2 (by omega))), (cnt_bnd haR hcb), hb1, hsz, hB⟩ (by first | omega | (dsimp only; omega))
    ·
     replace hc5 := dlt hc5
     refine r_exit rfl ?_
     refine r_seq (r_region' ?_)
     refine l_q (q_move (v := .int _ _) rfl rfl) ?_
     refine l_q (q_fieldAddr (o' := 1) rfl fld26_1 rfl) ?_
     refine l_q (q_load Tryz.isAgg23 rfl ((hb1.has (o := 1) rfl)) rfl) ?_
     refine l_q (q_move (v := .int _ _) rfl rfl) ?_
     obtain ⟨b23, o23, ha23, hh23⟩ := (hpo.rpl.below hB).at (by decide) i (by omega)
     refine l_q (q_indexAddr Tryz.underlying23 Tryz.sizeOf119 rfl ha23 rfl (by omega) rfl) ?_
     refine l_q (q_fieldAddr (o' := 2) rfl fld119_2 rfl) ?_
     refine l_q (q_load Tryz.isAgg3 rfl (((cells_cast (wide_at PV.len pv0 _ _ (by omega)) hh23) 2 _ rfl)) rfl) ?_
     refine l_q (q_gtr rfl rfl rfl) ?_
     refine l_nil ?_
     refine r_forget [(1, .slice _ _ _), (2, .pointer _), (5, .int _ _), (72, .bool _)] ⟨rfl, rfl, rfl, rfl, trivial⟩ (fun e24 => ?_)
     refine r_cond rfl (fun hc25 => ?_) (fun hc25 => ?_)
     ·
      replace hc25 := dt hc25
      have g72 := hc25
      refine r_seq (r_region' ?_)
      refine l_q (q_assign (v := .bool _) rfl rfl) ?_
      refine l_nil ?_
      refine r_ret_ (vs := [.bool _]) rfl Tryz.func24 rfl (.nil _) ⟨rfl, trivial⟩ ?_
      exact ⟨vbool_eq (rulesX_f hil (perX_f2 (by rw [cnt_all (by omega : R.length ≤ a)] at g72; omega))).symm, Ext.of_below hB⟩
     ·
      replace hc25 := dlt hc25
      have g72 := hc25
      refine r_skip (r_inBlock (r_region' ?_))
      refine l_q (q_move (v := .int _ _) rfl rfl) ?_
      refine l_q (q_add rfl rfl (by omega) rfl) ?_
      refine l_q (q_assign (v := .int _ _) rfl rfl) ?_
      refine l_nil ?_
      exact ih2 (i + 1) _ _ ⟨⟨rfl, rfl, by first | rfl | exact vint_eq (by omega), trivial⟩, (by omega), (fun j hj => by rcases Nat.lt_succ_iff_lt_or_eq.1 hj with h | h; exact hq j h; subst h; exact perX_t (fun a2 ha2 => hqa a2 (by omega)) (by rw [cnt_all (by omega : R.length ≤ a)] at g72; omega)), hb1, hsz, hB⟩ (by first | omega | (dsimp only; omega))
  ·
   replace hc3 := dlt hc3
   refine r_exit rfl ?_
   refine r_seq (r_region' ?_)
   refine l_q (q_assign (v := .bool _) rfl rfl) ?_
   refine l_nil ?_
   refine r_ret_ (vs := [.bool _]) rfl Tryz.func24 rfl (.nil _) ⟨rfl, trivial⟩ ?_
   exact ⟨vbool_eq (rulesX_t (fun j hj => hq j (by omega))).symm, Ext.of_below hB⟩
theorem fails10_ret (na : Option Addr) (nc : Nat) (nd : List Int) (pa : Option Addr) (pc : Nat) (pl : List PV) (ca : Option Addr) (cc : Nat) (L : List SV) (ra : Option Addr) (rc : Nat) (R : List SV) (c : Nat) (w : World) (hpo : PoAt w na nc nd pa pc pl ca cc L) (hok : faultP (po nd pl L) = 0) (hR : Row w ra R.length rc 1 (R.map SV.enc)) (hRr : RowsI w R) (hRl : R.length ≤ 2097152) (hRx : ∀ s ∈ R, s.xs.length ≤ 2097152) (hRn : R.length ≤ nd.length) (hRo : ∀ s ∈ R, ∀ i ∈ s.xs, 0 ≤ i ∧ i ≤ (pl.length : Int) - 1) (hc2 : c ≤ 2097152) : Ret Tryz.prog 26 [.agg ⟨[.slice na nd.length nc, .slice pa pl.length pc, .slice ca L.length cc]⟩, .slice ra R.length rc, vint (c : Int)] w (fun v w' => v = vint (failX nd (R.map (·.xs)) (L.map (·.xs)) c) ∧ Ext w w') := by
 obtain ⟨⟨hn1, hn5⟩, ⟨hp1, hp4⟩, hL4, hnn, hpp, hLL⟩ := po_ok hok
 have hB := Below.refl w.heap.size w
 have hsz : w.heap.size ≤ w.heap.size := Nat.le_refl _
 refine ret_of_runs (args := [_, _, _]) Tryz.func26 rfl (Nat.le_of_ble_eq_true rfl) (by kernel_rfl) ?_
 refine r_seq (r_region' ?_)
 refine l_o (o_box rfl rfl rfl ?_)
 intro b1 w1 hzl1 hzr1 _ hb1 hE1
 have hbs_b1 : w.heap.size ≤ b1 := Nat.le_trans hsz hzl1
 replace hB := below_ext hB hE1 hsz
 replace hsz := Nat.le_trans hsz hE1.size
 refine l_q (q_assign (v := .int _ _) rfl rfl) ?_
 refine l_nil (r_seq (r_seq (r_region' ?_)))
 refine l_q (q_assign (v := .int _ _) rfl rfl) ?_
 refine l_nil (r_block ?_)
 refine r_rounds (α := Nat) (fun k e wl => Knows e [(1, .slice ra R.length rc), (2, vint (c : Int)), (3, ptr b1 0), (7, vint (k : Int))] ∧ (k ≤ R.length) ∧ (∀ j, j < k → decide (awkN (decide (L.length ≤ c)) (L.getD c sv0).xs (j : Int) (R.getD j sv0).xs < nd.getD j 0) = false) ∧ (Blk wl b1 [.slice na nd.length nc, .slice pa pl.length pc, .slice ca L.length cc]) ∧ (w.heap.size ≤ wl.heap.size) ∧ (Below w.heap.size w wl)) (fun k => R.length - k) 0 ?_ ?_
 ·
  exact ⟨⟨rfl, rfl, rfl, rfl, trivial⟩, (Nat.zero_le _), (fun i hi => absurd hi (Nat.not_lt_zero _)), hb1, hsz, hB⟩
 ·
  rintro k el2 wl2 ⟨hkn, hkk, hq, hb1, hsz, hB⟩ ih2
  obtain ⟨e2, rfl⟩ := knows_env hkn
  refine r_seq (r_seq (r_region' ?_))
  refine l_q (q_move (v := .int _ _) rfl rfl) ?_
  refine l_q (q_move (v := .slice _ _ _) rfl rfl) ?_
  refine l_q (q_len rfl Tryz.underlying24 rfl rfl) ?_
  refine l_q (q_lss rfl rfl rfl) ?_
  refine l_nil ?_
  refine r_cond rfl (fun hc3 => ?_) (fun hc3 => ?_)
  ·
   replace hc3 := dt hc3
   have hkR : k < R.length := by omega
   have hkx := hRx _ (getD_lt (d := sv0) hkR)
   have hko := hRo _ (getD_lt (d := sv0) hkR)
   refine r_skip (r_seq (r_block (r_seq (r_region' ?_))))
   refine l_q (q_assign (v := .int _ _) rfl rfl) ?_
   refine l_nil (r_seq (r_seq (r_region' ?_)))
   refine l_q (q_assign (v := .int _ _) rfl rfl) ?_
   refine l_nil (r_block ?_)
   refine r_rounds (α := Nat × Int) (fun ⟨j, n⟩ e wl => Knows e [(1, .slice ra R.length rc), (2, vint (c : Int)), (3, ptr b1 0), (7, vint (k : Int)), (8, vint n), (9, vint (j : Int))] ∧ (j ≤ (R.getD k sv0).xs.length) ∧ (n = awkN (decide (L.length ≤ c)) (L.getD c sv0).xs (k : Int) ((R.getD k sv0).xs.take j)) ∧ (0 ≤ n ∧ n ≤ j) ∧ (Blk wl b1 [.slice na nd.length nc, .slice pa pl.length pc, .slice ca L.length cc]) ∧ (w.heap.size ≤ wl.heap.size) ∧ (Below w.heap.size w wl)) (fun ⟨j, n⟩ => (R.getD k sv0).xs.length - j) (0, 0) ?_ ?_
   ·
    exact ⟨⟨rfl, rfl, rfl, rfl, rfl, rfl, trivial⟩, (Nat.zero_le _), rfl, (by omega), hb1, hsz, hB⟩
   ·
    rintro ⟨j, n⟩ el4 wl4 ⟨hkn, hj, hn, hnb, hb1, hsz, hB⟩ ih4
    obtain ⟨e4, rfl⟩ := knows_env hkn
    refine r_seq (r_seq (r_region' ?_))
    refine l_q (q_move (v := .int _ _) rfl rfl) ?_
    refine l_q (q_move (v := .slice _ _ _) rfl rfl) ?_
    refine l_q (q_move (v := .int _ _) rfl rfl) ?_
    obtain ⟨b5, o5, ha5, hh5⟩ := (hR.below hB).at1 k ((R).getD k sv0) (getD_some (by omega))
    refine l_q (q_indexAddr1 Tryz.underlying24 Tryz.sizeOf22 rfl ha5 rfl (by omega) rfl) ?_
    refine l_q (q_load Tryz.isAgg22 rfl (hh5) rfl) ?_
    refine l_q (q_len rfl Tryz.underlying22 rfl rfl) ?_
    refine l_q (q_lss rfl rfl rfl) ?_
    refine l_nil ?_
    refine r_cond rfl (fun hc6 => ?_) (fun hc6 => ?_)
    ·
     replace hc6 := dt hc6
     have hjx : j < (R.getD k sv0).xs.length := by omega
     have hjo := hko _ (getD_lt (d := 0) hjx)
     refine r_skip (r_seq (r_block (r_seq (r_region' ?_))))
     refine l_q (q_assign (v := .int _ _) rfl rfl) ?_
     refine l_nil (r_seq (r_seq (r_region' ?_)))
     refine l_q (q_move (v := .int _ _) rfl rfl) ?_
     refine l_q (q_fieldAddr (o' := 2) rfl fld26_2 rfl) ?_
     refine l_q (q_load Tryz.isAgg24 rfl ((hb1.has (o := 2) rfl)) rfl) ?_
     refine l_q (q_len rfl Tryz.underlying24 rfl rfl) ?_
     refine l_q (q_lss rfl rfl rfl) ?_
     refine l_nil ?_
     refine r_forget [(1, .slice _ _ _), (2, .int _ _), (3, .pointer _), (7, .int _ _), (8, .int _ _), (9, .int _ _), (10, .int _ _), (30, .bool _)] ⟨rfl, rfl, rfl, rfl, rfl, rfl, rfl, rfl, trivial⟩ (fun e7 => ?_)
     refine r_cond rfl (fun hc8 => ?_) (fun hc8 => ?_)
     ·
      replace hc8 := dt hc8
      have hcL : c < L.length := by omega
      have hcx := (hLL _ (getD_lt (d := sv0) hcL)).1
      have hcb := (hLL _ (getD_lt (d := sv0) hcL)).2 _ (getD_lt (d := 0) (i := ((R.getD k sv0).xs.getD j 0).toNat) (by omega))
      refine r_draw ext_refl' ext_trans' [0, 1, 2, 3, 4, 5, 6, 7, 8, 9, 10, 11, 12, 13, 14] [] 30 (by kernel_rfl) (by kernel_rfl) ?_
      intro w9 _ hE9
      replace hB := below_ext hB hE9 hsz
      replace hb1 := hb1.ext hE9
      replace hsz := Nat.le_trans hsz hE9.size
      refine m_q rfl rfl (fun w' hC' => q_fieldAddr (o' := 2) rfl fld26_2 rfl) ?_
      refine m_q rfl rfl (fun w' hC' => q_load Tryz.isAgg24 rfl (((hb1.has (o := 2) rfl).ext hC')) rfl) ?_
      refine m_q rfl rfl (fun w' hC' => q_move (v := .int _ _) rfl rfl) ?_
      obtain ⟨b10, o10, ha10, hh10⟩ := (hpo.rC.below hB).at1 c ((L).getD c sv0) (getD_some (by omega))
      refine m_q rfl rfl (fun w' hC' => q_indexAddr1 Tryz.underlying24 Tryz.sizeOf22 rfl ha10 rfl (by omega) rfl) ?_
      refine m_q rfl rfl (fun w' hC' => q_load Tryz.isAgg22 rfl ((hh10.ext hC')) rfl) ?_
      refine m_q rfl rfl (fun w' hC' => q_move (v := .slice _ _ _) rfl rfl) ?_
      refine m_q rfl rfl (fun w' hC' => q_move (v := .int _ _) rfl rfl) ?_
      obtain ⟨b11, o11, ha11, hh11⟩ := (hR.below hB).at1 k ((R).getD k sv0) (getD_some (by omega))
      refine m_q rfl rfl (fun w' hC' => q_indexAddr1 Tryz.underlying24 Tryz.sizeOf22 rfl ha11 rfl (by omega) rfl) ?_
      refine m_q rfl rfl (fun w' hC' => q_load Tryz.isAgg22 rfl ((hh11.ext hC')) rfl) ?_
      refine m_q rfl rfl (fun w' hC' => q_move (v := .int _ _) rfl rfl) ?_
      obtain ⟨b12, o12, ha12, hh12⟩ := ((RowsI.get (hRr) (i := k) (by omega)).below hB).at1 j ((((R).getD k sv0).xs).getD j 0) (getD_some (by omega))
      refine m_q rfl rfl (fun w' hC' => q_indexAddr1 Tryz.underlying22 Tryz.sizeOf3 rfl ha12 rfl (by omega) rfl) ?_
      refine m_q rfl rfl (fun w' hC' => q_load Tryz.isAgg3 rfl ((hh12.ext hC')) rfl) ?_
      obtain ⟨b13, o13, ha13, hh13⟩ := ((RowsI.get (hpo.rCr) (i := c) (by omega)).below hB).at1 ((((R).getD k sv0).xs).getD j 0).toNat ((((L).getD c sv0).xs).getD ((((R).getD k sv0).xs).getD j 0).toNat 0) (getD_some (by omega))
      refine m_q rfl rfl (fun w' hC' => q_indexAddr1 Tryz.underlying22 Tryz.sizeOf3 rfl ha13 rfl (by omega) rfl) ?_
      refine m_q rfl rfl (fun w' hC' => q_load Tryz.isAgg3 rfl ((hh13.ext hC')) rfl) ?_
      refine m_q rfl rfl (fun w' hC' => q_assign (v := .int _ _) rfl rfl) ?_
      refine m_nil ?_
      refine r_forget [(1, .slice _ _ _), (2, .int _ _), (3, .pointer _), (7, .int _ _), (8, .int _ _), (9, .int _ _), (10, .int _ _)] ⟨rfl, rfl, rfl, rfl, rfl, rfl, rfl, trivial⟩ (fun e14 => ?_)
      refine r_seq (r_region' ?_)
      refine l_q (q_move (v := .int _ _) rfl rfl) ?_
      refine l_q (q_lss rfl rfl rfl) ?_
      refine l_q (q_move (v := .bool _) rfl rfl) ?_
      refine l_part 47 rfl (fun hc15 => ?_) (fun hc15 => ?_)
      ·
       replace hc15 := dt hc15
       have g47 := hc15
       refine l_q (q_skip rfl) ?_
       refine l_q (q_skip rfl) ?_
       refine l_q (q_skip rfl) ?_
       refine l_q (q_pick_t (v := .bool _) rfl rfl rfl) ?_
       refine l_nil ?_
       refine r_cond_t rfl ?_
       refine r_region' ?_
       refine l_q (q_move (v := .int _ _) rfl rfl) ?_
       refine l_q (q_add rfl rfl (by omega) rfl) ?_
       refine l_q (q_assign (v := .int _ _) rfl rfl) ?_
       refine l_nil ?_
       refine r_forget [(1, .slice _ _ _), (2, .int _ _), (3, .pointer _), (7, .int _ _), (8, .int _ _), (9, .int _ _)] ⟨rfl, rfl, rfl, rfl, rfl, rfl, trivial⟩ (fun e16 => ?_)
       refine r_inBlock (r_region' ?_)
       refine l_q (q_move (v := .int _ _) rfl rfl) ?_
       refine l_q (q_add rfl rfl (by omega) rfl) ?_
       refine l_q (q_assign (v := .int _ _) rfl rfl) ?_
       refine l_nil ?_
       exact ih4 (j + 1, n + 1) _ _ ⟨⟨rfl, rfl, rfl, rfl, rfl, (vint_eq (by omega)), trivial⟩, (by omega), (by rw [hn]; first | exact awk_yes hjx (awkB_t1 (by omega)) | exact awk_yes hjx (awkB_t2 (by omega)) | exact awk_no hjx (awkB_f (by omega) (by omega) (by omega))), (by omega), hb1, hsz, hB⟩ (by first | omega | (dsimp only; omega))
      ·
       replace hc15 := dlt hc15
       have g47 := hc15
       refine l_q (q_move (v := .int _ _) rfl rfl) ?_
       refine l_q (q_move (v := .int _ _) rfl rfl) ?_
       refine l_q (q_lss rfl rfl rfl) ?_
       refine l_q (q_pick_f (v := .bool _) rfl rfl rfl) ?_
       refine l_nil ?_
       refine r_cond rfl (fun hc17 => ?_) (fun hc17 => ?_)
       ·
        replace hc17 := dt hc17
        have g51 := hc17
        refine r_region' ?_
        refine l_q (q_move (v := .int _ _) rfl rfl) ?_
        refine l_q (q_add rfl rfl (by omega) rfl) ?_
        refine l_q (q_assign (v := .int _ _) rfl rfl) ?_
        refine l_nil ?_
        refine r_forget [(1, .slice _ _ _), (2, .int _ _), (3, .pointer _), (7, .int _ _), (8, .int _ _), (9, .int _ _)] ⟨rfl, rfl, rfl, rfl, rfl, rfl, trivial⟩ (fun e18 => ?_)
        refine r_inBlock (r_region' ?_)
        refine l_q (q_move (v := .int _ _) rfl rfl) ?_
        refine l_q (q_add rfl rfl (by omega) rfl) ?_
        refine l_q (q_assign (v := .int _ _) rfl rfl) ?_
        refine l_nil ?_
        exact ih4 (j + 1, n + 1) _ _ ⟨⟨rfl, rfl, rfl, rfl, rfl, (vint_eq (by omega)), trivial⟩, (by omega), (by rw [hn]; first | exact awk_yes hjx (awkB_t1 (by omega)) | exact awk_yes hjx (awkB_t2 (by omega)) | exact awk_no hjx (awkB_f (by omega) (by omega) (by omega))), (by omega), hb1, hsz, hB⟩ (by first | omega | (dsimp only; omega))
       ·
        replace hc17 := dlt hc17
        have g51 := hc17
        refine r_skip (r_inBlock (r_region' ?_))
        refine l_q (q_move (v := .int _ _) rfl rfl) ?_
        refine l_q (q_add rfl rfl (by omega) rfl) ?_
        refine l_q (q_assign (v := .int _ _) rfl rfl) ?_
        refine l_nil ?_
        refine r_forget [(1, .slice _ _ _), (2, .int _ _), (3, .pointer _), (7, .int _ _), (8, .int _ _), (9, .int _ _)] ⟨rfl, rfl, rfl, rfl, rfl, rfl, trivial⟩ (fun e19 => ?_)
        exact ih4 (j + 1, n) _ _ ⟨⟨rfl, rfl, rfl, rfl, rfl, (vint_eq (by omega)), trivial⟩, (by omega), (by rw [hn]; first | exact awk_yes hjx (awkB_t1 (by omega)) | exact awk_yes hjx (awkB_t2 (by omega)) | exact awk_no hjx (awkB_f (by omega) (by omega) (by omega))), (by omega), hb1, hsz, hB⟩ (by first | omega | (dsimp only; omega))
     ·
      replace hc8 := dlt hc8
      have hcL := hc8
      refine r_skip (r_seq (r_region' ?_))
      refine l_q (q_move (v := .int _ _) rfl rfl) ?_
      refine l_q (q_lss rfl rfl rfl) ?_
      refine l_q (q_move (v := .bool _) rfl rfl) ?_
      refine l_part 47 rfl (fun hc20 => ?_) (fun hc20 => ?_)
      ·
       replace hc20 := dt hc20
       have g47 := hc20
       refine l_q (q_skip rfl) ?_
       refine l_q (q_skip rfl) ?_
       refine l_q (q_skip rfl) ?_
       refine l_q (q_pick_t (v := .bool _) rfl rfl rfl) ?_
       refine l_nil ?_
       refine r_cond_t rfl ?_
       refine r_region' ?_
       refine l_q (q_move (v := .int _ _) rfl rfl) ?_
       refine l_q (q_add rfl rfl (by omega) rfl) ?_
       refine l_q (q_assign (v := .int _ _) rfl rfl) ?_
       refine l_nil ?_
       refine r_forget [(1, .slice _ _ _), (2, .int _ _), (3, .pointer _), (7, .int _ _), (8, .int _ _), (9, .int _ _)] ⟨rfl, rfl, rfl, rfl, rfl, rfl, trivial⟩ (fun e21 => ?_)
       refine r_inBlock (r_region' ?_)
       refine l_q (q_move (v := .int _ _) rfl rfl) ?_
       refine l_q (q_add rfl rfl (by omega) rfl) ?_
       refine l_q (q_assign (v := .int _ _) rfl rfl) ?_
       refine l_nil ?_
       exact ih4 (j + 1, n + 1) _ _ ⟨⟨rfl, rfl, rfl, rfl, rfl, (vint_eq (by omega)), trivial⟩, (by omega), (by rw [hn]; first | exact awk_yes hjx (awkB_t1 (by omega)) | exact awk_yes hjx (awkB_t2 (by omega)) | exact awk_no hjx (awkB_f (by omega) (by omega) (by omega))), (by omega), hb1, hsz, hB⟩ (by first | omega | (dsimp only; omega))
      ·
       replace hc20 := dlt hc20
       have g47 := hc20
       refine l_q (q_move (v := .int _ _) rfl rfl) ?_
       refine l_q (q_move (v := .int _ _) rfl rfl) ?_
       refine l_q (q_lss rfl rfl rfl) ?_
       refine l_q (q_pick_f (v := .bool _) rfl rfl rfl) ?_
       refine l_nil ?_
       refine r_cond rfl (fun hc22 => ?_) (fun hc22 => ?_)
       ·
        replace hc22 := dt hc22
        have g51 := hc22
        refine r_region' ?_
        refine l_q (q_move (v := .int _ _) rfl rfl) ?_
        refine l_q (q_add rfl rfl (by omega) rfl) ?_
        refine l_q (q_assign (v := .int _ _) rfl rfl) ?_
        refine l_nil ?_
        refine r_forget [(1, .slice _ _ _), (2, .int _ _), (3, .pointer _), (7, .int _ _), (8, .int _ _), (9, .int _ _)] ⟨rfl, rfl, rfl, rfl, rfl, rfl, trivial⟩ (fun e23 => ?_)
        refine r_inBlock (r_region' ?_)
        refine l_q (q_move (v := .int _ _) rfl rfl) ?_
        refine l_q (q_add rfl rfl (by omega) rfl) ?_
        refine l_q (q_assign (v := .int _ _) rfl rfl) ?_
        refine l_nil ?_
        exact ih4 (j + 1, n + 1) _ _ ⟨⟨rfl, rfl, rfl, rfl, rfl, (vint_eq (by omega)), trivial⟩, (by omega), (by rw [hn]; first | exact awk_yes hjx (awkB_t1 (by omega)) | exact awk_yes hjx (awkB_t2 (by omega)) | exact awk_no hjx (awkB_f (by omega) (by omega) (by omega))), (by omega), hb1, hsz, hB⟩ (by first | omega | (dsimp only; omega))
       ·
        replace hc22 := dlt hc22
        have g51 := hc22
        refine r_skip (r_inBlock (r_region' ?_))
        refine l_q (q_move (v := .int _ _) rfl rfl) ?_
        refine l_q (q_add rfl rfl (by omega) rfl) ?_
        refine l_q (q_assign (v := .int _ _) rfl rfl) ?_
        refine l_nil ?_
        refine r_forget [(1, .slice _ _ _), (2, .int _ _), (3, .pointer _), (7, .int _ _), (8, .int _ _), (9, .int _ _)] ⟨rfl, rfl, rfl, rfl, rfl, rfl, trivial⟩ (fun e24 => ?_)
        exact ih4 (j + 1, n) _ _ ⟨⟨rfl, rfl, rfl, rfl, rfl, (vint_eq (by omega)), trivial⟩, (by omega), (by rw [hn]; first | exact awk_yes hjx (awkB_t1 (by omega)) | exact awk_yes hjx (awkB_t2 (by omega)) | exact awk_no hjx (awkB_f (by omega) (by omega) (by omega))), (by omega), hb1, hsz, hB⟩ (by first | omega | (dsimp only; omega))
    ·
     replace hc6 := dlt hc6
     refine r_exit rfl ?_
     refine r_seq (r_region' ?_)
     refine l_q (q_move (v := .int _ _) rfl rfl) ?_
     refine l_q (q_fieldAddr (o' := 0) rfl fld26_0 rfl) ?_
     refine l_q (q_load Tryz.isAgg22 rfl ((hb1.has (o := 0) rfl)) rfl) ?_
     refine l_q (q_move (v := .int _ _) rfl rfl) ?_
     obtain ⟨b25, o25, ha25, hh25⟩ := (hpo.rnd.below hB).at1 k ((nd).getD k 0) (getD_some (by omega))
     refine l_q (q_indexAddr1 Tryz.underlying22 Tryz.sizeOf3 rfl ha25 rfl (by omega) rfl) ?_
     refine l_q (q_load Tryz.isAgg3 rfl (hh25) rfl) ?_
     refine l_q (q_lss rfl rfl rfl) ?_
     refine l_nil ?_
     refine r_forget [(1, .slice _ _ _), (2, .int _ _), (3, .pointer _), (7, .int _ _), (60, .bool _)] ⟨rfl, rfl, rfl, rfl, rfl, trivial⟩ (fun e26 => ?_)
     refine r_cond rfl (fun hc27 => ?_) (fun hc27 => ?_)
     ·
      replace hc27 := dt hc27
      have g60 := hc27
      refine r_seq (r_region' ?_)
      refine l_q (q_move (v := .int _ _) rfl rfl) ?_
      refine l_q (q_assign (v := .int _ _) rfl rfl) ?_
      refine l_nil ?_
      refine r_ret_ (vs := [.int _ _]) rfl Tryz.func26 rfl (.nil _) ⟨rfl, trivial⟩ ?_
      exact ⟨vint_eq (failX_at hkR hq (decide_eq_true (by rw [hn, awk_full (by omega)] at g60; omega))).symm, Ext.of_below hB⟩
     ·
      replace hc27 := dlt hc27
      have g60 := hc27
      refine r_skip (r_inBlock (r_region' ?_))
      refine l_q (q_move (v := .int _ _) rfl rfl) ?_
      refine l_q (q_add rfl rfl (by omega) rfl) ?_
      refine l_q (q_assign (v := .int _ _) rfl rfl) ?_
      refine l_nil ?_
      exact ih2 (k + 1) _ _ ⟨⟨rfl, rfl, rfl, by first | rfl | exact vint_eq (by omega), trivial⟩, (by omega), (fun j hj => by rcases Nat.lt_succ_iff_lt_or_eq.1 hj with h | h; exact hq j h; subst h; exact decide_eq_false (by rw [hn, awk_full (by omega)] at g60; omega)), hb1, hsz, hB⟩ (by first | omega | (dsimp only; omega))
  ·
   replace hc3 := dlt hc3
   refine r_exit rfl ?_
   refine r_seq (r_region' ?_)
   refine l_q (q_assign (v := .int _ _) rfl rfl) ?_
   refine l_nil ?_
   refine r_ret_ (vs := [.int _ _]) rfl Tryz.func26 rfl (.nil _) ⟨rfl, trivial⟩ ?_
   exact ⟨vint_eq (failX_no (fun j hj => hq j (by omega))).symm, Ext.of_below hB⟩
theorem safe10_ret (na : Option Addr) (nc : Nat) (nd : List Int) (pa : Option Addr) (pc : Nat) (pl : List PV) (ca : Option Addr) (cc : Nat) (L : List SV) (ra : Option Addr) (rc : Nat) (R : List SV) (w : World) (hpo : PoAt w na nc nd pa pc pl ca cc L) (hok : faultP (po nd pl L) = 0) (hR : Row w ra R.length rc 1 (R.map SV.enc)) (hRr : RowsI w R) (hRl : R.length ≤ 2097152) (hRx : ∀ s ∈ R, s.xs.length ≤ 2097152) (hRn : R.length ≤ nd.length) (hRo : ∀ s ∈ R, ∀ i ∈ s.xs, 0 ≤ i ∧ i ≤ (pl.length : Int) - 1) : Ret Tryz.prog 52 [.agg ⟨[.slice na nd.length nc, .slice pa pl.length pc, .slice ca L.length cc]⟩, .slice ra R.length rc] w (fun v w' => v = .bool (safeX nd pl (L.map (·.xs)) (R.map (·.xs))) ∧ Ext w w') := by
 obtain ⟨⟨hn1, hn5⟩, ⟨hp1, hp4⟩, hL4, hnn, hpp, hLL⟩ := po_ok hok
 have hB := Below.refl w.heap.size w
 have hsz : w.heap.size ≤ w.heap.size := Nat.le_refl _
 refine ret_of_runs (args := [_, _]) Tryz.func52 rfl (Nat.le_of_ble_eq_true rfl) (by kernel_rfl) ?_
 refine r_seq (r_region' ?_)
 refine l_o (o_box rfl rfl rfl ?_)
 intro b1 w1 hzl1 hzr1 _ hb1 hE1
 have hbs_b1 : w.heap.size ≤ b1 := Nat.le_trans hsz hzl1
 replace hB := below_ext hB hE1 hsz
 replace hsz := Nat.le_trans hsz hE1.size
 refine l_q (q_assign (v := .bool _) rfl rfl) ?_
 refine l_nil (r_seq (r_seq (r_region' ?_)))
 refine l_q (q_assign (v := .int _ _) rfl rfl) ?_
 refine l_nil (r_block ?_)
 refine r_rounds (α := Nat) (fun c e wl => Knows e [(1, .slice ra R.length rc), (2, ptr b1 0), (5, vint (c : Int))] ∧ (c ≤ L.length + 1) ∧ (∀ j, j < c → failX nd (R.map (·.xs)) (L.map (·.xs)) j < 0) ∧ (Blk wl b1 [.slice na nd.length nc, .slice pa pl.length pc, .slice ca L.length cc]) ∧ (w.heap.size ≤ wl.heap.size) ∧ (Below w.heap.size w wl)) (fun c => L.length + 1 - c) 0 ?_ ?_
 ·
  exact ⟨⟨rfl, rfl, rfl, trivial⟩, (Nat.zero_le _), (fun i hi => absurd hi (Nat.not_lt_zero _)), hb1, hsz, hB⟩
 ·
  rintro c el2 wl2 ⟨hkn, hkc, hq, hb1, hsz, hB⟩ ih2
  obtain ⟨e2, rfl⟩ := knows_env hkn
  refine r_seq (r_seq (r_region' ?_))
  refine l_q (q_move (v := .int _ _) rfl rfl) ?_
  refine l_q (q_fieldAddr (o' := 2) rfl fld26_2 rfl) ?_
  refine l_q (q_load Tryz.isAgg24 rfl ((hb1.has (o := 2) rfl)) rfl) ?_
  refine l_q (q_len rfl Tryz.underlying24 rfl rfl) ?_
  refine l_q (q_leq rfl rfl rfl) ?_
  refine l_nil ?_
  refine r_cond rfl (fun hc3 => ?_) (fun hc3 => ?_)
  ·
   replace hc3 := dt hc3
   have hcL : c ≤ L.length := by omega
   refine r_skip (r_seq (r_block (r_seq (r_region' ?_))))
   refine l_q (q_load_agg (n := 3) Tryz.isAgg26 Tryz.sizeOf26 rfl ((hb1.cells' (cs' := [_, _, _]) 0 3 rfl)) rfl rfl) ?_
   refine l_q (q_move (v := .slice _ _ _) rfl rfl) ?_
   refine l_q (q_move (v := .int _ _) rfl rfl) ?_
   refine l_o (o_call Tryz.call26 rfl (fails10_ret na nc nd pa pc pl ca cc L _ _ R c _ (hpo.below hB) hok (hR.below hB) (hRr.below hB) hRl hRx hRn hRo (by omega)) rfl ?_)
   rintro _ w4 ⟨rfl, hE4⟩
   replace hB := below_ext hB hE4 hsz
   replace hb1 := hb1.ext hE4
   replace hsz := Nat.le_trans hsz hE4.size
   refine l_q (q_geq rfl rfl rfl) ?_
   refine l_nil ?_
   refine r_cond rfl (fun hc5 => ?_) (fun hc5 => ?_)
   ·
    replace hc5 := dt hc5
    have g17 := hc5
    refine r_seq (r_region' ?_)
    refine l_q (q_assign (v := .bool _) rfl rfl) ?_
    refine l_nil ?_
    refine r_forget [(4, .bool _)] ⟨rfl, trivial⟩ (fun e6 => ?_)
    refine r_ret_ (vs := [.bool _]) rfl Tryz.func52 rfl (.nil _) ⟨rfl, trivial⟩ ?_
    exact ⟨vbool_eq (safeX_f (c := c) (by rw [List.length_map]; exact hcL) g17).symm, Ext.of_below hB⟩
   ·
    replace hc5 := dle hc5
    have g17 := hc5
    refine r_skip (r_inBlock (r_region' ?_))
    refine l_q (q_move (v := .int _ _) rfl rfl) ?_
    refine l_q (q_add rfl rfl (by omega) rfl) ?_
    refine l_q (q_assign (v := .int _ _) rfl rfl) ?_
    refine l_nil ?_
    refine r_forget [(1, .slice _ _ _), (2, .pointer _), (5, .int _ _)] ⟨rfl, rfl, rfl, trivial⟩ (fun e7 => ?_)
    exact ih2 (c + 1) _ _ ⟨⟨rfl, rfl, by first | rfl | exact vint_eq (by omega), trivial⟩, (by omega), (fun j hj => by rcases Nat.lt_succ_iff_lt_or_eq.1 hj with h | h; exact hq j h; subst h; exact g17), hb1, hsz, hB⟩ (by first | omega | (dsimp only; omega))
  ·
   replace hc3 := dle hc3
   refine r_exit rfl ?_
   refine r_seq (r_region' ?_)
   refine l_q (q_load_agg (n := 3) Tryz.isAgg26 Tryz.sizeOf26 rfl ((hb1.cells' (cs' := [_, _, _]) 0 3 rfl)) rfl rfl) ?_
   refine l_q (q_move (v := .slice _ _ _) rfl rfl) ?_
   refine l_o (o_call Tryz.call24 rfl (rules10_ret na nc nd pa pc pl ca cc L _ _ R _ (hpo.below hB) hok (hR.below hB) (hRr.below hB) hRl hRx hRn) rfl ?_)
   rintro _ w8 ⟨rfl, hE8⟩
   replace hB := below_ext hB hE8 hsz
   replace hsz := Nat.le_trans hsz hE8.size
   refine l_q (q_assign (v := .bool _) rfl rfl) ?_
   refine l_nil ?_
   refine r_forget [(4, .bool _)] ⟨rfl, trivial⟩ (fun e9 => ?_)
   refine r_ret_ (vs := [.bool _]) rfl Tryz.func52 rfl (.nil _) ⟨rfl, trivial⟩ ?_
   exact ⟨vbool_eq (safeX_t (fun j hj => hq j (by rw [List.length_map] at hj; omega))).symm, Ext.of_below hB⟩
theorem duties10_ret (ra : Option Addr) (rc : Nat) (R : List SV) (w : World) (hR : Row w ra R.length rc 1 (R.map SV.enc)) (hRr : RowsI w R) (hRl : R.length ≤ 2097152) (hRx : ∀ s ∈ R, s.xs.length ≤ 2097152) : Ret Tryz.prog 53 [.slice ra R.length rc] w (fun v w' => v = vint (dut (R.map (·.xs))) ∧ Ext w w') := by
 have hB := Below.refl w.heap.size w
 have hsz : w.heap.size ≤ w.heap.size := Nat.le_refl _
 refine ret_of_runs (args := [_]) Tryz.func53 rfl (Nat.le_of_ble_eq_true rfl) (by kernel_rfl) ?_
 refine r_seq (r_region' ?_)
 refine l_q (q_assign (v := .int _ _) rfl rfl) ?_
 refine l_nil (r_seq (r_region' ?_))
 refine l_q (q_assign (v := .int _ _) rfl rfl) ?_
 refine l_nil (r_seq (r_seq (r_region' ?_)))
 refine l_q (q_assign (v := .int _ _) rfl rfl) ?_
 refine l_nil (r_block ?_)
 refine r_rounds (α := Nat × Int) (fun ⟨k, n⟩ e wl => Knows e [(0, .slice ra R.length rc), (3, vint n), (4, vint (k : Int))] ∧ (k ≤ R.length) ∧ (n = dut ((R.map (·.xs)).take k)) ∧ (0 ≤ n ∧ n ≤ k * 2097152) ∧ (w.heap.size ≤ wl.heap.size) ∧ (Below w.heap.size w wl)) (fun ⟨k, n⟩ => R.length - k) (0, 0) ?_ ?_
 ·
  exact ⟨⟨rfl, rfl, rfl, trivial⟩, (Nat.zero_le _), rfl, (by omega), hsz, hB⟩
 ·
  rintro ⟨k, n⟩ el1 wl1 ⟨hkn, hk, hn, hnb, hsz, hB⟩ ih1
  obtain ⟨e1, rfl⟩ := knows_env hkn
  refine r_seq (r_seq (r_region' ?_))
  refine l_q (q_move (v := .int _ _) rfl rfl) ?_
  refine l_q (q_move (v := .slice _ _ _) rfl rfl) ?_
  refine l_q (q_len rfl Tryz.underlying24 rfl rfl) ?_
  refine l_q (q_lss rfl rfl rfl) ?_
  refine l_nil ?_
  refine r_cond rfl (fun hc2 => ?_) (fun hc2 => ?_)
  ·
   replace hc2 := dt hc2
   have hkR : k < R.length := by omega
   have hkx := hRx _ (getD_lt (d := sv0) hkR)
   refine r_skip (r_seq (r_block (r_region' ?_)))
   refine l_q (q_move (v := .int _ _) rfl rfl) ?_
   refine l_q (q_move (v := .slice _ _ _) rfl rfl) ?_
   refine l_q (q_move (v := .int _ _) rfl rfl) ?_
   obtain ⟨b3, o3, ha3, hh3⟩ := (hR.below hB).at1 k ((R).getD k sv0) (getD_some (by omega))
   refine l_q (q_indexAddr1 Tryz.underlying24 Tryz.sizeOf22 rfl ha3 rfl (by omega) rfl) ?_
   refine l_q (q_load Tryz.isAgg22 rfl (hh3) rfl) ?_
   refine l_q (q_len rfl Tryz.underlying22 rfl rfl) ?_
   refine l_q (q_add rfl rfl (by omega) rfl) ?_
   refine l_q (q_assign (v := .int _ _) rfl rfl) ?_
   refine l_nil ?_
   refine r_forget [(0, .slice _ _ _), (3, .int _ _), (4, .int _ _)] ⟨rfl, rfl, rfl, trivial⟩ (fun e4 => ?_)
   refine r_inBlock (r_region' ?_)
   refine l_q (q_move (v := .int _ _) rfl rfl) ?_
   refine l_q (q_add rfl rfl (by omega) rfl) ?_
   refine l_q (q_assign (v := .int _ _) rfl rfl) ?_
   refine l_nil ?_
   exact ih1 (k + 1, n + (((R).getD k sv0).xs.length : Int)) _ _ ⟨⟨rfl, rfl, (vint_eq (by omega)), trivial⟩, (by omega), (by rw [hn]; exact dut_step hkR), (by omega), hsz, hB⟩ (by first | omega | (dsimp only; omega))
  ·
   replace hc2 := dlt hc2
   refine r_exit rfl ?_
   refine r_seq (r_region' ?_)
   refine l_q (q_move (v := .int _ _) rfl rfl) ?_
   refine l_q (q_assign (v := .int _ _) rfl rfl) ?_
   refine l_nil ?_
   refine r_ret_ (vs := [.int _ _]) rfl Tryz.func53 rfl (.nil _) ⟨rfl, trivial⟩ ?_
   exact ⟨vint_eq (by rw [hn, List.take_of_length_le (by rw [List.length_map]; omega)]), Ext.of_below hB⟩
theorem smaller10_ret (ra : Option Addr) (rc : Nat) (R : List SV) (qa : Option Addr) (qc : Nat) (Q : List SV) (w : World) (hR : Row w ra R.length rc 1 (R.map SV.enc)) (hRr : RowsI w R) (hRl : R.length ≤ 2097152) (hRx : ∀ s ∈ R, s.xs.length ≤ 2097152) (hQ : Row w qa Q.length qc 1 (Q.map SV.enc)) (hQr : RowsI w Q) (hQl : Q.length ≤ 2097152) (hQx : ∀ s ∈ Q, s.xs.length ≤ 2097152) : Ret Tryz.prog 57 [.slice ra R.length rc, .slice qa Q.length qc] w (fun v w' => v = .bool (smB (R.map (·.xs)) (Q.map (·.xs))) ∧ Ext w w') := by
 have hB := Below.refl w.heap.size w
 have hsz : w.heap.size ≤ w.heap.size := Nat.le_refl _
 refine ret_of_runs (args := [_, _]) Tryz.func57 rfl (Nat.le_of_ble_eq_true rfl) (by kernel_rfl) ?_
 refine r_seq (r_region' ?_)
 refine l_q (q_assign (v := .bool _) rfl rfl) ?_
 refine l_nil (r_seq (r_seq (r_region' ?_)))
 refine l_q (q_assign (v := .int _ _) rfl rfl) ?_
 refine l_nil (r_block ?_)
 refine r_rounds (α := Nat) (fun k e wl => Knows e [(0, .slice ra R.length rc), (1, .slice qa Q.length qc), (5, vint (k : Int))] ∧ (k ≤ R.length) ∧ (k ≤ Q.length) ∧ (smB (R.map (·.xs)) (Q.map (·.xs)) = smB ((R.map (·.xs)).drop k) ((Q.map (·.xs)).drop k)) ∧ (w.heap.size ≤ wl.heap.size) ∧ (Below w.heap.size w wl)) (fun k => R.length - k) 0 ?_ ?_
 ·
  exact ⟨⟨rfl, rfl, rfl, trivial⟩, (Nat.zero_le _), (Nat.zero_le _), (by rw [List.drop_zero, List.drop_zero]), hsz, hB⟩
 ·
  rintro k el1 wl1 ⟨hkn, hkk, hkq, hq, hsz, hB⟩ ih1
  obtain ⟨e1, rfl⟩ := knows_env hkn
  refine r_seq (r_seq (r_region' ?_))
  refine l_q (q_move (v := .int _ _) rfl rfl) ?_
  refine l_q (q_move (v := .slice _ _ _) rfl rfl) ?_
  refine l_q (q_len rfl Tryz.underlying24 rfl rfl) ?_
  refine l_q (q_lss rfl rfl rfl) ?_
  refine l_q (q_move (v := .bool _) rfl rfl) ?_
  refine l_part 10 rfl (fun hc2 => ?_) (fun hc2 => ?_)
  ·
   replace hc2 := dt hc2
   have hkR : k < R.length := by omega
   have hkx := hRx _ (getD_lt (d := sv0) hkR)
   refine l_q (q_move (v := .int _ _) rfl rfl) ?_
   refine l_q (q_move (v := .slice _ _ _) rfl rfl) ?_
   refine l_q (q_len rfl Tryz.underlying24 rfl rfl) ?_
   refine l_q (q_lss rfl rfl rfl) ?_
   refine l_q (q_pick_t (v := .bool _) rfl rfl rfl) ?_
   refine l_nil ?_
   refine r_cond rfl (fun hc3 => ?_) (fun hc3 => ?_)
   ·
    replace hc3 := dt hc3
    have hkQ : k < Q.length := by omega
    have hky := hQx _ (getD_lt (d := sv0) hkQ)
    refine r_skip (r_seq (r_block (r_seq ?_)))
    refine r_draw ext_refl' ext_trans' [0, 1, 2, 3, 4, 5, 6, 7, 8, 9, 10, 11, 12, 13, 14, 15, 16, 17, 18, 19] [8, 18] 30 (by kernel_rfl) (by kernel_rfl) ?_
    intro w4 _ hE4
    replace hB := below_ext hB hE4 hsz
    replace hsz := Nat.le_trans hsz hE4.size
    refine m_q rfl rfl (fun w' hC' => q_move (v := .slice _ _ _) rfl rfl) ?_
    refine m_q rfl rfl (fun w' hC' => q_move (v := .int _ _) rfl rfl) ?_
    obtain ⟨b5, o5, ha5, hh5⟩ := (hR.below hB).at1 k ((R).getD k sv0) (getD_some (by omega))
    refine m_q rfl rfl (fun w' hC' => q_indexAddr1 Tryz.underlying24 Tryz.sizeOf22 rfl ha5 rfl (by omega) rfl) ?_
    refine m_q rfl rfl (fun w' hC' => q_load Tryz.isAgg22 rfl ((hh5.ext hC')) rfl) ?_
    refine m_q rfl rfl (fun w' hC' => q_move (v := .slice _ _ _) rfl rfl) ?_
    refine m_q rfl rfl (fun w' hC' => q_move (v := .int _ _) rfl rfl) ?_
    obtain ⟨b6, o6, ha6, hh6⟩ := (hQ.below hB).at1 k ((Q).getD k sv0) (getD_some (by omega))
    refine m_q rfl rfl (fun w' hC' => q_indexAddr1 Tryz.underlying24 Tryz.sizeOf22 rfl ha6 rfl (by omega) rfl) ?_
    refine m_q rfl rfl (fun w' hC' => q_load Tryz.isAgg22 rfl ((hh6.ext hC')) rfl) ?_
    refine m_o rfl rfl (o_call Tryz.call48 rfl (short10_ret _ _ (((R).getD k sv0).xs) _ _ (((Q).getD k sv0).xs) _ ((RowsI.get (hRr) (i := k) (by omega)).below hB) (by omega) ((RowsI.get (hQr) (i := k) (by omega)).below hB) (by omega)) rfl ?_)
    rintro _ w7 ⟨rfl, hE7⟩
    refine ⟨hE7, ?_⟩
    replace hB := below_ext hB hE7 hsz
    replace hsz := Nat.le_trans hsz hE7.size
    refine m_q rfl rfl (fun w' hC' => q_move (v := .bool _) rfl rfl) ?_
    refine m_part 27 rfl (fun hc8 => ?_) (fun hc8 => ?_)
    ·
     have g27 := hc8
     refine m_q rfl rfl (fun w' hC' => q_skip rfl) ?_
     refine m_q rfl rfl (fun w' hC' => q_skip rfl) ?_
     refine m_q rfl rfl (fun w' hC' => q_skip rfl) ?_
     refine m_q rfl rfl (fun w' hC' => q_skip rfl) ?_
     refine m_q rfl rfl (fun w' hC' => q_skip rfl) ?_
     refine m_q rfl rfl (fun w' hC' => q_skip rfl) ?_
     refine m_q rfl rfl (fun w' hC' => q_skip rfl) ?_
     refine m_q rfl rfl (fun w' hC' => q_skip rfl) ?_
     refine m_o rfl rfl ((q_skip rfl).eff ⟨Ext.refl _, ?_⟩)
     refine m_q rfl rfl (fun w' hC' => q_pick_t (v := .bool _) rfl rfl rfl) ?_
     refine m_nil ?_
     refine r_forget [(0, .slice _ _ _), (1, .slice _ _ _), (5, .int _ _), (37, .bool _)] ⟨rfl, rfl, rfl, rfl, trivial⟩ (fun e9 => ?_)
     refine r_cond_t rfl ?_
     refine r_seq ?_
     refine r_draw ext_refl' ext_trans' [0, 1, 2, 3, 4, 5, 6, 7, 8, 9] [8] 20 (by kernel_rfl) (by kernel_rfl) ?_
     intro w10 _ hE10
     replace hB := below_ext hB hE10 hsz
     replace hsz := Nat.le_trans hsz hE10.size
     refine m_q rfl rfl (fun w' hC' => q_move (v := .slice _ _ _) rfl rfl) ?_
     refine m_q rfl rfl (fun w' hC' => q_move (v := .int _ _) rfl rfl) ?_
     obtain ⟨b11, o11, ha11, hh11⟩ := (hR.below hB).at1 k ((R).getD k sv0) (getD_some (by omega))
     refine m_q rfl rfl (fun w' hC' => q_indexAddr1 Tryz.underlying24 Tryz.sizeOf22 rfl ha11 rfl (by omega) rfl) ?_
     refine m_q rfl rfl (fun w' hC' => q_load Tryz.isAgg22 rfl ((hh11.ext hC')) rfl) ?_
     refine m_q rfl rfl (fun w' hC' => q_move (v := .slice _ _ _) rfl rfl) ?_
     refine m_q rfl rfl (fun w' hC' => q_move (v := .int _ _) rfl rfl) ?_
     obtain ⟨b12, o12, ha12, hh12⟩ := (hQ.below hB).at1 k ((Q).getD k sv0) (getD_some (by omega))
     refine m_q rfl rfl (fun w' hC' => q_indexAddr1 Tryz.underlying24 Tryz.sizeOf22 rfl ha12 rfl (by omega) rfl) ?_
     refine m_q rfl rfl (fun w' hC' => q_load Tryz.isAgg22 rfl ((hh12.ext hC')) rfl) ?_
     refine m_o rfl rfl (o_call Tryz.call48 rfl (short10_ret _ _ (((R).getD k sv0).xs) _ _ (((Q).getD k sv0).xs) _ ((RowsI.get (hRr) (i := k) (by omega)).below hB) (by omega) ((RowsI.get (hQr) (i := k) (by omega)).below hB) (by omega)) rfl ?_)
     rintro _ w13 ⟨rfl, hE13⟩
     refine ⟨hE13, ?_⟩
     replace hB := below_ext hB hE13 hsz
     replace hsz := Nat.le_trans hsz hE13.size
     refine m_q rfl rfl (fun w' hC' => q_assign (v := .bool _) rfl rfl) ?_
     refine m_nil ?_
     refine r_forget [(4, .bool _)] ⟨rfl, trivial⟩ (fun e14 => ?_)
     refine r_ret_ (vs := [.bool _]) rfl Tryz.func57 rfl (.nil _) ⟨rfl, trivial⟩ ?_
     exact ⟨vbool_eq (by rw [hq]; symm; first | exact smB_at1 hkR hkQ g27 | exact smB_at2 hkR hkQ g37), Ext.of_below hB⟩
    ·
     have g27 := hc8
     refine m_q rfl rfl (fun w' hC' => q_move (v := .slice _ _ _) rfl rfl) ?_
     refine m_q rfl rfl (fun w' hC' => q_move (v := .int _ _) rfl rfl) ?_
     obtain ⟨b15, o15, ha15, hh15⟩ := (hQ.below hB).at1 k ((Q).getD k sv0) (getD_some (by omega))
     refine m_q rfl rfl (fun w' hC' => q_indexAddr1 Tryz.underlying24 Tryz.sizeOf22 rfl ha15 rfl (by omega) rfl) ?_
     refine m_q rfl rfl (fun w' hC' => q_load Tryz.isAgg22 rfl ((hh15.ext hC')) rfl) ?_
     refine m_q rfl rfl (fun w' hC' => q_move (v := .slice _ _ _) rfl rfl) ?_
     refine m_q rfl rfl (fun w' hC' => q_move (v := .int _ _) rfl rfl) ?_
     obtain ⟨b16, o16, ha16, hh16⟩ := (hR.below hB).at1 k ((R).getD k sv0) (getD_some (by omega))
     refine m_q rfl rfl (fun w' hC' => q_indexAddr1 Tryz.underlying24 Tryz.sizeOf22 rfl ha16 rfl (by omega) rfl) ?_
     refine m_q rfl rfl (fun w' hC' => q_load Tryz.isAgg22 rfl ((hh16.ext hC')) rfl) ?_
     refine m_o rfl rfl (o_call Tryz.call48 rfl (short10_ret _ _ (((Q).getD k sv0).xs) _ _ (((R).getD k sv0).xs) _ ((RowsI.get (hQr) (i := k) (by omega)).below hB) (by omega) ((RowsI.get (hRr) (i := k) (by omega)).below hB) (by omega)) rfl ?_)
     rintro _ w17 ⟨rfl, hE17⟩
     refine ⟨hE17, ?_⟩
     replace hB := below_ext hB hE17 hsz
     replace hsz := Nat.le_trans hsz hE17.size
     refine m_q rfl rfl (fun w' hC' => q_pick_f (v := .bool _) rfl rfl rfl) ?_
     refine m_nil ?_
     refine r_forget [(0, .slice _ _ _), (1, .slice _ _ _), (5, .int _ _), (37, .bool _)] ⟨rfl, rfl, rfl, rfl, trivial⟩ (fun e18 => ?_)
     refine r_cond rfl (fun hc19 => ?_) (fun hc19 => ?_)
     ·
      have g37 := hc19
      refine r_seq ?_
      refine r_draw ext_refl' ext_trans' [0, 1, 2, 3, 4, 5, 6, 7, 8, 9] [8] 20 (by kernel_rfl) (by kernel_rfl) ?_
      intro w20 _ hE20
      replace hB := below_ext hB hE20 hsz
      replace hsz := Nat.le_trans hsz hE20.size
      refine m_q rfl rfl (fun w' hC' => q_move (v := .slice _ _ _) rfl rfl) ?_
      refine m_q rfl rfl (fun w' hC' => q_move (v := .int _ _) rfl rfl) ?_
      obtain ⟨b21, o21, ha21, hh21⟩ := (hR.below hB).at1 k ((R).getD k sv0) (getD_some (by omega))
      refine m_q rfl rfl (fun w' hC' => q_indexAddr1 Tryz.underlying24 Tryz.sizeOf22 rfl ha21 rfl (by omega) rfl) ?_
      refine m_q rfl rfl (fun w' hC' => q_load Tryz.isAgg22 rfl ((hh21.ext hC')) rfl) ?_
      refine m_q rfl rfl (fun w' hC' => q_move (v := .slice _ _ _) rfl rfl) ?_
      refine m_q rfl rfl (fun w' hC' => q_move (v := .int _ _) rfl rfl) ?_
      obtain ⟨b22, o22, ha22, hh22⟩ := (hQ.below hB).at1 k ((Q).getD k sv0) (getD_some (by omega))
      refine m_q rfl rfl (fun w' hC' => q_indexAddr1 Tryz.underlying24 Tryz.sizeOf22 rfl ha22 rfl (by omega) rfl) ?_
      refine m_q rfl rfl (fun w' hC' => q_load Tryz.isAgg22 rfl ((hh22.ext hC')) rfl) ?_
      refine m_o rfl rfl (o_call Tryz.call48 rfl (short10_ret _ _ (((R).getD k sv0).xs) _ _ (((Q).getD k sv0).xs) _ ((RowsI.get (hRr) (i := k) (by omega)).below hB) (by omega) ((RowsI.get (hQr) (i := k) (by omega)).below hB) (by omega)) rfl ?_)
      rintro _ w23 ⟨rfl, hE23⟩
      refine ⟨hE23, ?_⟩
      replace hB := below_ext hB hE23 hsz
      replace hsz := Nat.le_trans hsz hE23.size
      refine m_q rfl rfl (fun w' hC' => q_assign (v := .bool _) rfl rfl) ?_
      refine m_nil ?_
      refine r_forget [(4, .bool _)] ⟨rfl, trivial⟩ (fun e24 => ?_)
      refine r_ret_ (vs := [.bool _]) rfl Tryz.func57 rfl (.nil _) ⟨rfl, trivial⟩ ?_
      exact ⟨vbool_eq (by rw [hq]; symm; first | exact smB_at1 hkR hkQ g27 | exact smB_at2 hkR hkQ g37), Ext.of_below hB⟩
     ·
      have g37 := hc19
      refine r_skip (r_inBlock (r_region' ?_))
      refine l_q (q_move (v := .int _ _) rfl rfl) ?_
      refine l_q (q_add rfl rfl (by omega) rfl) ?_
      refine l_q (q_assign (v := .int _ _) rfl rfl) ?_
      refine l_nil ?_
      exact ih1 (k + 1) _ _ ⟨⟨rfl, rfl, by first | rfl | exact vint_eq (by omega), trivial⟩, (by omega), (by omega), (by rw [hq]; exact smB_next hkR hkQ g27 g37), hsz, hB⟩ (by first | omega | (dsimp only; omega))
   ·
    replace hc3 := dlt hc3
    have hkQ := hc3
    refine r_exit rfl ?_
    refine r_seq (r_region' ?_)
    refine l_q (q_assign (v := .bool _) rfl rfl) ?_
    refine l_nil ?_
    refine r_forget [(4, .bool _)] ⟨rfl, trivial⟩ (fun e25 => ?_)
    refine r_ret_ (vs := [.bool _]) rfl Tryz.func57 rfl (.nil _) ⟨rfl, trivial⟩ ?_
    exact ⟨vbool_eq (by rw [hq]; symm; exact smB_end (by omega)), Ext.of_below hB⟩
  ·
   replace hc2 := dlt hc2
   have hkR := hc2
   refine l_q (q_skip rfl) ?_
   refine l_q (q_skip rfl) ?_
   refine l_q (q_skip rfl) ?_
   refine l_q (q_skip rfl) ?_
   refine l_q (q_pick_f (v := .bool _) rfl rfl rfl) ?_
   refine l_nil ?_
   refine r_cond_f rfl ?_
   refine r_exit rfl ?_
   refine r_seq (r_region' ?_)
   refine l_q (q_assign (v := .bool _) rfl rfl) ?_
   refine l_nil ?_
   refine r_forget [(4, .bool _)] ⟨rfl, trivial⟩ (fun e26 => ?_)
   refine r_ret_ (vs := [.bool _]) rfl Tryz.func57 rfl (.nil _) ⟨rfl, trivial⟩ ?_
   exact ⟨vbool_eq (by rw [hq]; symm; exact smB_end (by omega)), Ext.of_below hB⟩
end Go.Proofs.YtgdanglidienmaaGreat
