/- Contracts. -/
import Derived.Test.YtgdanglidienmaaRP
set_option linter.unusedVariables false
set_option linter.unusedSimpArgs false
namespace Go.Proofs.Ytgdanglidienmaa
open Go Go.RowKit Go.Gv Go.Fl

theorem okNeed_t {n : Int} (h : 0 ≤ n ∧ n ≤ 2) : okNeed n = true := by unfold okNeed; rw [decide_eq_true h.1, decide_eq_true h.2]; rfl
theorem okNeed_f {n : Int} (h : n < 0 ∨ 2 < n) : okNeed n = false := by unfold okNeed; rw [Bool.and_eq_false_iff, decide_eq_false_iff_not, decide_eq_false_iff_not]; omega
theorem okPerson_t {n : Nat} {x : PV} (h : (x.ab.length : Int) = n ∧ (0 ≤ x.r ∧ x.r ≤ 5) ∧ 0 ≤ x.m ∧ x.m ≤ 5) : okPerson n x.pn = true := by unfold okPerson PV.pn; simp only [Bool.and_eq_true, decide_eq_true_eq]; omega
theorem okPerson_f {n : Nat} {x : PV} (h : ¬ ((x.ab.length : Int) = n ∧ (0 ≤ x.r ∧ x.r ≤ 5) ∧ 0 ≤ x.m ∧ x.m ≤ 5)) : okPerson n x.pn = false := by
  rw [← Bool.not_eq_true]; intro h2; apply h; unfold okPerson PV.pn at h2; simp only [Bool.and_eq_true, decide_eq_true_eq] at h2; omega
theorem illIn_t {n : Nat} {x : Int} (h : -1 ≤ x ∧ x ≤ (n : Int) - 1) : illIn n x = true := by unfold illIn; rw [decide_eq_true h.1, decide_eq_true h.2]; rfl
theorem illIn_f {n : Nat} {x : Int} (h : x < -1 ∨ (n : Int) - 1 < x) : illIn n x = false := by unfold illIn; rw [Bool.and_eq_false_iff, decide_eq_false_iff_not, decide_eq_false_iff_not]; omega
theorem okIll_t {n k : Nat} {l : List Int} (h : (l.length : Int) = k) (h2 : ∀ m, m < l.length → illIn n (l.getD m 0) = true) : okIll n k l = true := by unfold okIll; rw [decide_eq_true h, all_getD (d := 0) h2]; rfl
theorem okIll_f1 {n k : Nat} {l : List Int} (h : ¬ (l.length : Int) = k) : okIll n k l = false := by unfold okIll; rw [decide_eq_false h]; rfl
theorem okIll_f2 {n k j : Nat} {l : List Int} (h : j < l.length) (h2 : illIn n (l.getD j 0) = false) : okIll n k l = false := by unfold okIll; rw [all_bad h h2, Bool.and_false]
theorem rAt_t {xs : List Int} {be : Int} {k : Nat} (hla : -1 ≤ lastAt xs k) (h : (0 ≤ xs.getD k 0 ∧ xs.getD k 0 ≤ be - 1)) (h2 : 0 < k → xs.getD (k - 1) 0 < xs.getD k 0) : rAt xs be k = true := by
  unfold rAt
  rw [decide_eq_true h.2, Bool.and_true, decide_eq_true_eq]
  cases k with
  | zero => show -1 + 1 ≤ _; omega
  | succ k => have := h2 (by omega); show xs.getD k 0 + 1 ≤ _; rw [Nat.add_sub_cancel] at this; omega
theorem rAt_f1 {xs : List Int} {be : Int} {k : Nat} (hla : -1 ≤ lastAt xs k) (h : xs.getD k 0 < 0 ∨ be - 1 < xs.getD k 0) : rAt xs be k = false := by
  unfold rAt
  rw [Bool.and_eq_false_iff, decide_eq_false_iff_not, decide_eq_false_iff_not]; omega
theorem rAt_f2 {xs : List Int} {be : Int} {k : Nat} (hk : 0 < k) (h : xs.getD k 0 ≤ xs.getD (k - 1) 0) : rAt xs be k = false := by
  obtain ⟨j, rfl⟩ : ∃ j, k = j + 1 := ⟨k - 1, by omega⟩
  rw [Nat.add_sub_cancel] at h
  unfold rAt
  rw [Bool.and_eq_false_iff, decide_eq_false_iff_not]; left
  show ¬ xs.getD j 0 + 1 ≤ _; omega
theorem ris_bad {xs : List Int} {be : Int} {k : Nat} (hk : k < xs.length) (h : rAt xs be k = false) : risB xs be = false := List.all_eq_false.2 ⟨k, List.mem_range.2 hk, by rw [h]; decide⟩
theorem ris_all {xs : List Int} {be : Int} (h : ∀ k, k < xs.length → rAt xs be k = true) : risB xs be = true := List.all_eq_true.2 fun k hk => h k (List.mem_range.1 hk)
/-- a rota -/
def isRB (nd : List Int) (n : Nat) (T : List (List Int)) : Bool := decide ((T.length : Int) = (nd.length : Int)) && T.all (fun l => risB l (n : Int))
theorem isRB_iff {nd : List Int} {n : Nat} {T : List (List Int)} : isRB nd n T = true ↔ IsR nd n T := by
  unfold isRB IsR
  rw [Bool.and_eq_true, decide_eq_true_eq, List.all_eq_true]
  exact ⟨fun h => ⟨by omega, h.2⟩, fun h => ⟨by omega, h.2⟩⟩
theorem isRB_no {nd : List Int} {n k : Nat} {R : List SV} (hk : k < R.length) (h : risB (R.getD k sv0).xs (n : Int) = false) : isRB nd n (R.map (·.xs)) = false := by
  unfold isRB
  rw [xs_all, all_bad (d := sv0) (p := fun s : SV => risB s.xs (n : Int)) hk h, Bool.and_false]
theorem isRB_yes {nd : List Int} {n : Nat} {R : List SV} (h : ∀ k, k < R.length → risB (R.getD k sv0).xs (n : Int) = true) : isRB nd n (R.map (·.xs)) = decide ((R.length : Int) = (nd.length : Int)) := by
  unfold isRB
  rw [xs_all, all_getD (d := sv0) (p := fun s : SV => risB s.xs (n : Int)) h, Bool.and_true, List.length_map]
theorem plan_isRB {nd : List Int} {pl : List PV} {L : List SV} {T : List (List Int)} : planP (po nd pl L) T = if ¬ faultP (po nd pl L) = 0 then faultP (po nd pl L) else if isRB nd pl.length T = true then 0 else 2 := by
  unfold planP isRB po
  simp only [List.length_map]
def okB (x : PV) (i : Nat) (R : List SV) (a b : Nat) : Bool := !hasI (R.getD b sv0).xs (i : Int) || decide (x.r ≤ (a : Int) - (b : Int) - 1)
section
variable {x : PV} {i a b : Nat} {R : List SV}
theorem okB_no (h : hasI (R.getD b sv0).xs (i : Int) = false) : okB x i R a b = true := by unfold okB; rw [h]; rfl
theorem okB_ok (h : x.r ≤ (a : Int) - (b : Int) - 1) : okB x i R a b = true := by unfold okB; rw [decide_eq_true h, Bool.or_true]
theorem okB_f (h : hasI (R.getD b sv0).xs (i : Int) = true) (h2 : (a : Int) - (b : Int) - 1 < x.r) : okB x i R a b = false := by unfold okB; rw [h, decide_eq_false (by omega)]; rfl
theorem okA_eq : okA x i (R.map (·.xs)) a = (!hasI (R.getD a sv0).xs (i : Int) || (x.ab.getD a false && (List.range a).all (okB x i R a))) := by
  unfold okA okB
  simp only [xs_at]
theorem okA_skip (h : hasI (R.getD a sv0).xs (i : Int) = false) : okA x i (R.map (·.xs)) a = true := by rw [okA_eq, h]; rfl
theorem okA_yes (h : hasI (R.getD a sv0).xs (i : Int) = true) (h2 : x.ab.getD a false = true) (h3 : ∀ b, b < a → okB x i R a b = true) : okA x i (R.map (·.xs)) a = true := by
  rw [okA_eq, h, h2, List.all_eq_true.2 (fun b hb => h3 b (List.mem_range.1 hb))]; rfl
theorem okA_f1 (h : hasI (R.getD a sv0).xs (i : Int) = true) (h2 : x.ab.getD a false = false) : okA x i (R.map (·.xs)) a = false := by rw [okA_eq, h, h2]; rfl
theorem okA_f2 (h : hasI (R.getD a sv0).xs (i : Int) = true) (hb : b < a) (h2 : okB x i R a b = false) : okA x i (R.map (·.xs)) a = false := by
  rw [okA_eq, h, List.all_eq_false.2 ⟨b, List.mem_range.2 hb, by rw [h2]; decide⟩, Bool.and_false]; rfl
theorem cnt_one : cntA i ((R.map (·.xs)).take (a + 1)) = cntA i ((R.map (·.xs)).take a) + (if a < R.length ∧ hasI (R.getD a sv0).xs (i : Int) = true then 1 else 0) := by
  by_cases ha : a < R.length
  · rw [xs_take ha, cnt_app]
    rw [cnt_sing]
    by_cases hh : hasI (R.getD a sv0).xs (i : Int) = true
    · rw [if_pos hh, if_pos ⟨ha, hh⟩]
    · rw [if_neg hh, if_neg (fun h => hh h.2)]
  · rw [if_neg (fun h => ha h.1), List.take_of_length_le (by rw [List.length_map]; omega), List.take_of_length_le (by rw [List.length_map]; omega)]; rfl
theorem cnt_yes (ha : a < R.length) (h : hasI (R.getD a sv0).xs (i : Int) = true) : ((cntA i ((R.map (·.xs)).take a) : Nat) : Int) + 1 = ((cntA i ((R.map (·.xs)).take (a + 1)) : Nat) : Int) := by
  rw [cnt_one, if_pos ⟨ha, h⟩]; omega
theorem cnt_no (ha : a < R.length) (h : hasI (R.getD a sv0).xs (i : Int) = false) : ((cntA i ((R.map (·.xs)).take a) : Nat) : Int) = ((cntA i ((R.map (·.xs)).take (a + 1)) : Nat) : Int) := by
  rw [cnt_one, if_neg (by rw [h]; exact fun h => by cases h.2)]; rfl
theorem cnt_bnd (_ha : a < R.length) (h : cntA i ((R.map (·.xs)).take a) ≤ a) : cntA i ((R.map (·.xs)).take (a + 1)) ≤ a + 1 := by
  rw [cnt_one]; split <;> omega
theorem cnt_all (h : R.length ≤ a) : cntA i ((R.map (·.xs)).take a) = cntA i (R.map (·.xs)) := by rw [List.take_of_length_le (by rw [List.length_map]; exact h)]
theorem perX_t (h : ∀ a, a < R.length → okA x i (R.map (·.xs)) a = true) (h2 : ((cntA i (R.map (·.xs)) : Nat) : Int) ≤ x.m) : perX x i (R.map (·.xs)) = true := by
  unfold perX
  rw [List.all_eq_true.2 (fun a ha => h a (by have := List.mem_range.1 ha; rwa [List.length_map] at this)), decide_eq_true h2]; rfl
theorem perX_f1 (ha : a < R.length) (h : okA x i (R.map (·.xs)) a = false) : perX x i (R.map (·.xs)) = false := by
  unfold perX
  rw [List.all_eq_false.2 ⟨a, List.mem_range.2 (by rw [List.length_map]; exact ha), by rw [h]; decide⟩]; rfl
theorem perX_f2 (h : x.m < ((cntA i (R.map (·.xs)) : Nat) : Int)) : perX x i (R.map (·.xs)) = false := by
  unfold perX
  rw [decide_eq_false (by omega), Bool.and_false]
theorem rulesX_f {pl : List PV} {T : List (List Int)} (hi : i < pl.length) (h : perX (pl.getD i pv0) i T = false) : rulesX pl T = false := List.all_eq_false.2 ⟨i, List.mem_range.2 hi, by rw [h]; decide⟩
theorem rulesX_t {pl : List PV} {T : List (List Int)} (h : ∀ i, i < pl.length → perX (pl.getD i pv0) i T = true) : rulesX pl T = true := List.all_eq_true.2 fun i hi => h i (List.mem_range.1 hi)
end
theorem awkB_t1 {c : Nat} {L : List SV} {ix : List Int} {wt i : Int} (h : L.length ≤ c) : awkB (decide (L.length ≤ c)) ix wt i = true := by unfold awkB; rw [decide_eq_true h]; rfl
theorem awkB_t2 {b : Bool} {ix : List Int} {wt i : Int} (h : ix.getD i.toNat 0 = -1 ∨ wt < ix.getD i.toNat 0) : awkB b ix wt i = true := by
  unfold awkB
  rcases h with h | h
  · rw [decide_eq_true h]; simp
  · rw [decide_eq_true h]; simp
theorem awkB_f {c : Nat} {L : List SV} {ix : List Int} {wt i : Int} (h : c < L.length) (h1 : ¬ ix.getD i.toNat 0 = -1) (h2 : ix.getD i.toNat 0 ≤ wt) : awkB (decide (L.length ≤ c)) ix wt i = false := by unfold awkB; rw [decide_eq_false (by omega), decide_eq_false h1, decide_eq_false (by omega)]; rfl
theorem awk_full {nn : Bool} {ix xs : List Int} {wt : Int} {j : Nat} (h : xs.length ≤ j) : awkN nn ix wt (xs.take j) = awkN nn ix wt xs := by rw [List.take_of_length_le h]
section
variable {nd : List Int} {R L : List SV} {c k : Nat}
theorem failX_eq : failX nd (R.map (·.xs)) (L.map (·.xs)) c = idxI (fun k => decide (awkN (decide (L.length ≤ c)) (L.getD c sv0).xs (k : Int) (R.getD k sv0).xs < nd.getD k 0)) R.length := by
  unfold failX
  simp only [xs_at, List.length_map]
theorem failX_at (hk : k < R.length) (hq : ∀ j, j < k → decide (awkN (decide (L.length ≤ c)) (L.getD c sv0).xs (j : Int) (R.getD j sv0).xs < nd.getD j 0) = false) (h : decide (awkN (decide (L.length ≤ c)) (L.getD c sv0).xs (k : Int) (R.getD k sv0).xs < nd.getD k 0) = true) : failX nd (R.map (·.xs)) (L.map (·.xs)) c = (k : Int) := by
  rw [failX_eq]
  exact idxI_found (p := fun k => decide (awkN (decide (L.length ≤ c)) (L.getD c sv0).xs (k : Int) (R.getD k sv0).xs < nd.getD k 0)) hk h hq
theorem failX_no (hq : ∀ j, j < R.length → decide (awkN (decide (L.length ≤ c)) (L.getD c sv0).xs (j : Int) (R.getD j sv0).xs < nd.getD j 0) = false) : failX nd (R.map (·.xs)) (L.map (·.xs)) c = -1 := by
  rw [failX_eq]
  exact idxI_none (p := fun k => decide (awkN (decide (L.length ≤ c)) (L.getD c sv0).xs (k : Int) (R.getD k sv0).xs < nd.getD k 0)) hq
end
theorem safeX_f {nd : List Int} {pl : List PV} {C T : List (List Int)} {c : Nat} (hc : c ≤ C.length) (h : 0 ≤ failX nd T C c) : safeX nd pl C T = false := by
  unfold safeX
  rw [List.all_eq_false.2 ⟨c, List.mem_range.2 (by omega), by rw [decide_eq_false (by omega)]; decide⟩]; rfl
theorem safeX_t {nd : List Int} {pl : List PV} {C T : List (List Int)} (h : ∀ c, c < C.length + 1 → failX nd T C c < 0) : safeX nd pl C T = rulesX pl T := by
  unfold safeX
  rw [List.all_eq_true.2 (fun c hc => decide_eq_true (h c (List.mem_range.1 hc)))]; rfl
theorem dut_step {R : List SV} {k : Nat} (hk : k < R.length) : dut ((R.map (·.xs)).take k) + ((R.getD k sv0).xs.length : Int) = dut ((R.map (·.xs)).take (k + 1)) := by
  rw [xs_take hk]
  unfold dut
  rw [List.flatten_append, List.length_append]; simp
section
variable {R Q : List SV} {k : Nat}
theorem smB_two (hR : k < R.length) (hQ : k < Q.length) : smB ((R.map (·.xs)).drop k) ((Q.map (·.xs)).drop k) = if (ltL (R.getD k sv0).xs (Q.getD k sv0).xs || ltL (Q.getD k sv0).xs (R.getD k sv0).xs) = true then ltL (R.getD k sv0).xs (Q.getD k sv0).xs else smB ((R.map (·.xs)).drop (k + 1)) ((Q.map (·.xs)).drop (k + 1)) := by
  rw [drop_getD (d := []) (by rw [List.length_map]; exact hR), drop_getD (d := []) (l := Q.map (·.xs)) (by rw [List.length_map]; exact hQ), xs_at, xs_at, smB]
theorem smB_next (hR : k < R.length) (hQ : k < Q.length) (h1 : ltL (R.getD k sv0).xs (Q.getD k sv0).xs = false) (h2 : ltL (Q.getD k sv0).xs (R.getD k sv0).xs = false) : smB ((R.map (·.xs)).drop k) ((Q.map (·.xs)).drop k) = smB ((R.map (·.xs)).drop (k + 1)) ((Q.map (·.xs)).drop (k + 1)) := by
  rw [smB_two hR hQ, h1, h2]; rfl
theorem smB_at1 (hR : k < R.length) (hQ : k < Q.length) (h1 : ltL (R.getD k sv0).xs (Q.getD k sv0).xs = true) : smB ((R.map (·.xs)).drop k) ((Q.map (·.xs)).drop k) = ltL (R.getD k sv0).xs (Q.getD k sv0).xs := by
  rw [smB_two hR hQ, h1]; rfl
theorem smB_at2 (hR : k < R.length) (hQ : k < Q.length) (h1 : ltL (Q.getD k sv0).xs (R.getD k sv0).xs = true) : smB ((R.map (·.xs)).drop k) ((Q.map (·.xs)).drop k) = ltL (R.getD k sv0).xs (Q.getD k sv0).xs := by
  rw [smB_two hR hQ, h1, Bool.or_true, if_pos rfl]
theorem smB_end (h : R.length ≤ k ∨ Q.length ≤ k) : smB ((R.map (·.xs)).drop k) ((Q.map (·.xs)).drop k) = false := by
  rcases h with h | h
  · rw [List.drop_eq_nil_of_le (by rw [List.length_map]; exact h)]; rfl
  · rw [show (Q.map (·.xs)).drop k = [] from List.drop_eq_nil_of_le (by rw [List.length_map]; exact h)]
    cases (R.map (·.xs)).drop k <;> rfl
end

theorem fld26_0 (w : World) (b o : Nat) : (Instr.fieldAt 26 (ptr b o) 0).run Try.prog w = .ok (ptr b (o + 0)) w := by
  simp [Instr.fieldAt, run_underlying Try.underlying26, fieldPlace, Instr.sureAddr, Try.sizeOf22, Addr.add_lit]
theorem fld26_1 (w : World) (b o : Nat) : (Instr.fieldAt 26 (ptr b o) 1).run Try.prog w = .ok (ptr b (o + 1)) w := by
  simp [Instr.fieldAt, run_underlying Try.underlying26, fieldPlace, Instr.sureAddr, Try.sizeOf23, Addr.add_lit]
theorem fld26_2 (w : World) (b o : Nat) : (Instr.fieldAt 26 (ptr b o) 2).run Try.prog w = .ok (ptr b (o + 2)) w := by
  simp [Instr.fieldAt, run_underlying Try.underlying26, fieldPlace, Instr.sureAddr, Try.sizeOf24, Addr.add_lit]
theorem fld32_0 (w : World) (b o : Nat) : (Instr.fieldAt 32 (ptr b o) 0).run Try.prog w = .ok (ptr b (o + 0)) w := by
  simp [Instr.fieldAt, run_underlying Try.underlying32, fieldPlace, Instr.sureAddr, Try.sizeOf30, Addr.add_lit]
theorem fld32_1 (w : World) (b o : Nat) : (Instr.fieldAt 32 (ptr b o) 1).run Try.prog w = .ok (ptr b (o + 1)) w := by
  simp [Instr.fieldAt, run_underlying Try.underlying32, fieldPlace, Instr.sureAddr, Try.sizeOf3, Addr.add_lit]
theorem fld32_2 (w : World) (b o : Nat) : (Instr.fieldAt 32 (ptr b o) 2).run Try.prog w = .ok (ptr b (o + 2)) w := by
  simp [Instr.fieldAt, run_underlying Try.underlying32, fieldPlace, Instr.sureAddr, Try.sizeOf3, Addr.add_lit]
theorem fault10_ret (na : Option Addr) (nc : Nat) (nd : List Int) (pa : Option Addr) (pc : Nat) (pl : List PV) (ca : Option Addr) (cc : Nat) (L : List SV) (w : World) (hpo : PoAt w na nc nd pa pc pl ca cc L) (hnl : nd.length ≤ 2097152) (hpll : pl.length ≤ 2097152) (hLl : L.length ≤ 2097152) (hLs : ∀ s ∈ L, s.xs.length ≤ 2097152) : Ret Try.prog 62 [.agg ⟨[.slice na nd.length nc, .slice pa pl.length pc, .slice ca L.length cc]⟩] w (fun v w' => v = vint (faultP (po nd pl L)) ∧ Ext w w') := by
 have hB := Below.refl w.heap.size w
 have hsz : w.heap.size ≤ w.heap.size := Nat.le_refl _
 refine ret_of_runs (args := [_]) Try.func62 rfl (Nat.le_of_ble_eq_true rfl) (by kernel_rfl) ?_
 refine r_seq (r_region' ?_)
 refine l_o (o_box rfl rfl rfl ?_)
 intro b1 w1 hzl1 hzr1 _ hb1 hE1
 have hbs_b1 : w.heap.size ≤ b1 := Nat.le_trans hsz hzl1
 replace hB := below_ext hB hE1 hsz
 replace hsz := Nat.le_trans hsz hE1.size
 refine l_q (q_assign (v := .int _ _) rfl rfl) ?_
 refine l_nil (r_seq (r_seq (r_region' ?_)))
 refine l_q (q_fieldAddr (o' := 0) rfl fld26_0 rfl) ?_
 refine l_q (q_load Try.isAgg22 rfl ((hb1.has (o := 0) rfl)) rfl) ?_
 refine l_q (q_len rfl Try.underlying22 rfl rfl) ?_
 refine l_q (q_gtr rfl rfl rfl) ?_
 refine l_q (q_move (v := .bool _) rfl rfl) ?_
 refine l_part 12 rfl (fun hc2 => ?_) (fun hc2 => ?_)
 ·
  replace hc2 := dt hc2
  have g12 := hc2
  refine l_q (q_skip rfl) ?_
  refine l_q (q_skip rfl) ?_
  refine l_q (q_skip rfl) ?_
  refine l_q (q_skip rfl) ?_
  refine l_q (q_pick_t (v := .bool _) rfl rfl rfl) ?_
  refine l_q (q_move (v := .bool _) rfl rfl) ?_
  refine l_q (q_skip rfl) ?_
  refine l_q (q_skip rfl) ?_
  refine l_q (q_skip rfl) ?_
  refine l_q (q_skip rfl) ?_
  refine l_q (q_pick_t (v := .bool _) rfl rfl rfl) ?_
  refine l_nil ?_
  refine r_forget [(1, .pointer _), (23, .bool _)] ⟨rfl, rfl, trivial⟩ (fun e3 => ?_)
  refine r_cond_t rfl ?_
  refine r_seq (r_region' ?_)
  refine l_q (q_assign (v := .int _ _) rfl rfl) ?_
  refine l_nil ?_
  refine r_ret_ (vs := [.int _ _]) rfl Try.func62 rfl (.nil _) ⟨rfl, trivial⟩ ?_
  exact ⟨vint_eq (fault_3 (by omega)).symm, Ext.of_below hB⟩
 ·
  replace hc2 := dlt hc2
  have g12 := hc2
  refine l_q (q_fieldAddr (o' := 1) rfl fld26_1 rfl) ?_
  refine l_q (q_load Try.isAgg23 rfl ((hb1.has (o := 1) rfl)) rfl) ?_
  refine l_q (q_len rfl Try.underlying23 rfl rfl) ?_
  refine l_q (q_gtr rfl rfl rfl) ?_
  refine l_q (q_pick_f (v := .bool _) rfl rfl rfl) ?_
  refine l_q (q_move (v := .bool _) rfl rfl) ?_
  refine l_part 18 rfl (fun hc4 => ?_) (fun hc4 => ?_)
  ·
   replace hc4 := dt hc4
   have g18 := hc4
   refine l_q (q_skip rfl) ?_
   refine l_q (q_skip rfl) ?_
   refine l_q (q_skip rfl) ?_
   refine l_q (q_skip rfl) ?_
   refine l_q (q_pick_t (v := .bool _) rfl rfl rfl) ?_
   refine l_nil ?_
   refine r_forget [(1, .pointer _), (23, .bool _)] ⟨rfl, rfl, trivial⟩ (fun e5 => ?_)
   refine r_cond_t rfl ?_
   refine r_seq (r_region' ?_)
   refine l_q (q_assign (v := .int _ _) rfl rfl) ?_
   refine l_nil ?_
   refine r_ret_ (vs := [.int _ _]) rfl Try.func62 rfl (.nil _) ⟨rfl, trivial⟩ ?_
   exact ⟨vint_eq (fault_3 (by omega)).symm, Ext.of_below hB⟩
  ·
   replace hc4 := dlt hc4
   have g18 := hc4
   refine l_q (q_fieldAddr (o' := 2) rfl fld26_2 rfl) ?_
   refine l_q (q_load Try.isAgg24 rfl ((hb1.has (o := 2) rfl)) rfl) ?_
   refine l_q (q_len rfl Try.underlying24 rfl rfl) ?_
   refine l_q (q_gtr rfl rfl rfl) ?_
   refine l_q (q_pick_f (v := .bool _) rfl rfl rfl) ?_
   refine l_nil ?_
   refine r_forget [(1, .pointer _), (23, .bool _)] ⟨rfl, rfl, trivial⟩ (fun e6 => ?_)
   refine r_cond rfl (fun hc7 => ?_) (fun hc7 => ?_)
   ·
    replace hc7 := dt hc7
    have g23 := hc7
    refine r_seq (r_region' ?_)
    refine l_q (q_assign (v := .int _ _) rfl rfl) ?_
    refine l_nil ?_
    refine r_ret_ (vs := [.int _ _]) rfl Try.func62 rfl (.nil _) ⟨rfl, trivial⟩ ?_
    exact ⟨vint_eq (fault_3 (by omega)).symm, Ext.of_below hB⟩
   ·
    replace hc7 := dlt hc7
    have g23 := hc7
    refine r_skip (r_seq (r_seq (r_region' ?_)))
    refine l_q (q_fieldAddr (o' := 0) rfl fld26_0 rfl) ?_
    refine l_q (q_load Try.isAgg22 rfl ((hb1.has (o := 0) rfl)) rfl) ?_
    refine l_q (q_len rfl Try.underlying22 rfl rfl) ?_
    refine l_q (q_eql rfl rfl rfl) ?_
    refine l_q (q_move (v := .bool _) rfl rfl) ?_
    refine l_part 28 rfl (fun hc8 => ?_) (fun hc8 => ?_)
    ·
     replace hc8 := dt hc8
     have g28 := hc8
     refine l_q (q_skip rfl) ?_
     refine l_q (q_skip rfl) ?_
     refine l_q (q_skip rfl) ?_
     refine l_q (q_skip rfl) ?_
     refine l_q (q_pick_t (v := .bool _) rfl rfl rfl) ?_
     refine l_nil ?_
     refine r_forget [(1, .pointer _), (33, .bool _)] ⟨rfl, rfl, trivial⟩ (fun e9 => ?_)
     refine r_cond_t rfl ?_
     refine r_seq (r_region' ?_)
     refine l_q (q_assign (v := .int _ _) rfl rfl) ?_
     refine l_nil ?_
     refine r_ret_ (vs := [.int _ _]) rfl Try.func62 rfl (.nil _) ⟨rfl, trivial⟩ ?_
     exact ⟨vint_eq (fault_1 (by omega) (fun ⟨⟨⟨⟨h1, h2⟩, h3⟩, h4⟩, h5⟩ => by omega)).symm, Ext.of_below hB⟩
    ·
     replace hc8 := df hc8
     have g28 := hc8
     refine l_q (q_fieldAddr (o' := 1) rfl fld26_1 rfl) ?_
     refine l_q (q_load Try.isAgg23 rfl ((hb1.has (o := 1) rfl)) rfl) ?_
     refine l_q (q_len rfl Try.underlying23 rfl rfl) ?_
     refine l_q (q_eql rfl rfl rfl) ?_
     refine l_q (q_pick_f (v := .bool _) rfl rfl rfl) ?_
     refine l_nil ?_
     refine r_forget [(1, .pointer _), (33, .bool _)] ⟨rfl, rfl, trivial⟩ (fun e10 => ?_)
     refine r_cond rfl (fun hc11 => ?_) (fun hc11 => ?_)
     ·
      replace hc11 := dt hc11
      have g33 := hc11
      refine r_seq (r_region' ?_)
      refine l_q (q_assign (v := .int _ _) rfl rfl) ?_
      refine l_nil ?_
      refine r_ret_ (vs := [.int _ _]) rfl Try.func62 rfl (.nil _) ⟨rfl, trivial⟩ ?_
      exact ⟨vint_eq (fault_1 (by omega) (fun ⟨⟨⟨⟨h1, h2⟩, h3⟩, h4⟩, h5⟩ => by omega)).symm, Ext.of_below hB⟩
     ·
      replace hc11 := df hc11
      have g33 := hc11
      refine r_skip (r_seq (r_seq (r_region' ?_)))
      refine l_q (q_assign (v := .int _ _) rfl rfl) ?_
      refine l_nil (r_block ?_)
      refine r_rounds (α := Nat) (fun k e wl => Knows e [(1, ptr b1 0), (3, vint (k : Int))] ∧ (k ≤ nd.length) ∧ (∀ j, j < k → okNeed (nd.getD j 0) = true) ∧ (Blk wl b1 [.slice na nd.length nc, .slice pa pl.length pc, .slice ca L.length cc]) ∧ (w.heap.size ≤ wl.heap.size) ∧ (Below w.heap.size w wl)) (fun k => nd.length - k) 0 ?_ ?_
      ·
       exact ⟨⟨rfl, rfl, trivial⟩, (Nat.zero_le _), (fun i hi => absurd hi (Nat.not_lt_zero _)), hb1, hsz, hB⟩
      ·
       rintro k el12 wl12 ⟨hkn, hkk, hq, hb1, hsz, hB⟩ ih12
       obtain ⟨e12, rfl⟩ := knows_env hkn
       refine r_seq (r_seq (r_region' ?_))
       refine l_q (q_move (v := .int _ _) rfl rfl) ?_
       refine l_q (q_fieldAddr (o' := 0) rfl fld26_0 rfl) ?_
       refine l_q (q_load Try.isAgg22 rfl ((hb1.has (o := 0) rfl)) rfl) ?_
       refine l_q (q_len rfl Try.underlying22 rfl rfl) ?_
       refine l_q (q_lss rfl rfl rfl) ?_
       refine l_nil ?_
       refine r_cond rfl (fun hc13 => ?_) (fun hc13 => ?_)
       ·
        replace hc13 := dt hc13
        have hkn : k < nd.length := by omega
        refine r_skip (r_seq (r_block (r_seq (r_region' ?_))))
        refine l_q (q_fieldAddr (o' := 0) rfl fld26_0 rfl) ?_
        refine l_q (q_load Try.isAgg22 rfl ((hb1.has (o := 0) rfl)) rfl) ?_
        refine l_q (q_move (v := .int _ _) rfl rfl) ?_
        obtain ⟨b14, o14, ha14, hh14⟩ := (hpo.rnd.below hB).at1 k ((nd).getD k 0) (getD_some (by omega))
        refine l_q (q_indexAddr1 Try.underlying22 Try.sizeOf3 rfl ha14 rfl (by omega) rfl) ?_
        refine l_q (q_load Try.isAgg3 rfl (hh14) rfl) ?_
        refine l_o (o_call Try.call32 rfl (in10_ret _ _ _ _) rfl ?_)
        rintro _ w15 ⟨rfl, rfl⟩
        refine l_q (q_not rfl rfl) ?_
        refine l_nil ?_
        refine r_forget [(1, .pointer _), (3, .int _ _), (47, .bool _)] ⟨rfl, rfl, rfl, trivial⟩ (fun e16 => ?_)
        refine r_cond rfl (fun hc17 => ?_) (fun hc17 => ?_)
        ·
         replace hc17 := b2f (nt hc17)
         have g47 := hc17
         refine r_seq (r_region' ?_)
         refine l_q (q_assign (v := .int _ _) rfl rfl) ?_
         refine l_nil ?_
         refine r_ret_ (vs := [.int _ _]) rfl Try.func62 rfl (.nil _) ⟨rfl, trivial⟩ ?_
         exact ⟨vint_eq (fault_1 (by omega) (fun ⟨⟨⟨⟨h1, h2⟩, h3⟩, h4⟩, h5⟩ => by rw [all_bad (d := 0) hkn (okNeed_f (by omega))] at h3; cases h3)).symm, Ext.of_below hB⟩
        ·
         replace hc17 := b2t (nf hc17)
         have g47 := hc17
         refine r_skip (r_inBlock (r_region' ?_))
         refine l_q (q_move (v := .int _ _) rfl rfl) ?_
         refine l_q (q_add rfl rfl (by omega) rfl) ?_
         refine l_q (q_assign (v := .int _ _) rfl rfl) ?_
         refine l_nil ?_
         exact ih12 (k + 1) _ _ ⟨⟨rfl, by first | rfl | exact vint_eq (by omega), trivial⟩, (by omega), (fun j hj => by rcases Nat.lt_succ_iff_lt_or_eq.1 hj with h | h; exact hq j h; subst h; exact okNeed_t (by omega)), hb1, hsz, hB⟩ (by first | omega | (dsimp only; omega))
       ·
        replace hc13 := dlt hc13
        refine r_exit rfl ?_
        refine r_seq (r_seq (r_region' ?_))
        refine l_q (q_assign (v := .int _ _) rfl rfl) ?_
        refine l_nil (r_block ?_)
        refine r_rounds (α := Nat) (fun k e wl => Knows e [(1, ptr b1 0), (4, vint (k : Int))] ∧ (k ≤ pl.length) ∧ (∀ j, j < k → okPerson nd.length (pl.getD j pv0).pn = true) ∧ (Blk wl b1 [.slice na nd.length nc, .slice pa pl.length pc, .slice ca L.length cc]) ∧ (w.heap.size ≤ wl.heap.size) ∧ (Below w.heap.size w wl)) (fun k => pl.length - k) 0 ?_ ?_
        ·
         exact ⟨⟨rfl, rfl, trivial⟩, (Nat.zero_le _), (fun i hi => absurd hi (Nat.not_lt_zero _)), hb1, hsz, hB⟩
        ·
         rintro k el18 wl18 ⟨hkn, hkk, hq2, hb1, hsz, hB⟩ ih18
         obtain ⟨e18, rfl⟩ := knows_env hkn
         refine r_seq (r_seq (r_region' ?_))
         refine l_q (q_move (v := .int _ _) rfl rfl) ?_
         refine l_q (q_fieldAddr (o' := 1) rfl fld26_1 rfl) ?_
         refine l_q (q_load Try.isAgg23 rfl ((hb1.has (o := 1) rfl)) rfl) ?_
         refine l_q (q_len rfl Try.underlying23 rfl rfl) ?_
         refine l_q (q_lss rfl rfl rfl) ?_
         refine l_nil ?_
         refine r_cond rfl (fun hc19 => ?_) (fun hc19 => ?_)
         ·
          replace hc19 := dt hc19
          have hkp : k < pl.length := by omega
          refine r_skip (r_seq (r_block (r_seq (r_region' ?_))))
          refine l_q (q_fieldAddr (o' := 1) rfl fld26_1 rfl) ?_
          refine l_q (q_load Try.isAgg23 rfl ((hb1.has (o := 1) rfl)) rfl) ?_
          refine l_q (q_move (v := .int _ _) rfl rfl) ?_
          obtain ⟨b20, o20, ha20, hh20⟩ := (hpo.rpl.below hB).at (by decide) k (by omega)
          refine l_q (q_indexAddr Try.underlying23 Try.sizeOf32 rfl ha20 rfl (by omega) rfl) ?_
          refine l_q (q_load_agg (cs := [.slice (((pl).getD k pv0).a) (((pl).getD k pv0).ab.length) (((pl).getD k pv0).c), vint (((pl).getD k pv0).r), vint (((pl).getD k pv0).m)]) (n := 3) Try.isAgg32 Try.sizeOf32 rfl ((cells_cast (wide_at PV.len pv0 _ _ (by omega)) hh20)) rfl rfl) ?_
          refine l_o (o_alloc Try.zeroValue32 rfl rfl ?_)
          intro b21 w21 hzl21 hzr21 _ hb21 hE21
          have hne_b1_b21 : b1 ≠ b21 := by have := hb1.lt; omega
          have hbs_b21 : w.heap.size ≤ b21 := Nat.le_trans hsz hzl21
          replace hB := below_ext hB hE21 hsz
          replace hb1 := hb1.ext hE21
          replace hsz := Nat.le_trans hsz hE21.size
          refine l_o (o_store (vs := [.slice (((pl).getD k pv0).a) (((pl).getD k pv0).ab.length) (((pl).getD k pv0).c), vint (((pl).getD k pv0).r), vint (((pl).getD k pv0).m)]) (cs' := [.slice (((pl).getD k pv0).a) (((pl).getD k pv0).ab.length) (((pl).getD k pv0).c), vint (((pl).getD k pv0).r), vint (((pl).getD k pv0).m)]) Try.sizeOf32 rfl rfl rfl rfl hb21 (Nat.le_of_ble_eq_true rfl) rfl rfl ?_)
          intro w22 hz22 hb21 hG22
          replace hB := below_upd hB hG22 hsz (by omega)
          replace hsz : w.heap.size ≤ w22.heap.size := by rw [hz22]; exact hsz
          replace hb1 := hb1.upd hG22 (by omega)
          refine l_nil ?_
          refine r_forget [(1, .pointer _), (4, .int _ _), (5, .pointer _)] ⟨rfl, rfl, rfl, trivial⟩ (fun e23 => ?_)
          refine r_seq (r_region' ?_)
          refine l_q (q_fieldAddr (o' := 0) rfl fld32_0 rfl) ?_
          refine l_q (q_load Try.isAgg30 rfl ((hb21.has (o := 0) rfl)) rfl) ?_
          refine l_q (q_len rfl Try.underlying30 rfl rfl) ?_
          refine l_q (q_fieldAddr (o' := 0) rfl fld26_0 rfl) ?_
          refine l_q (q_load Try.isAgg22 rfl ((hb1.has (o := 0) rfl)) rfl) ?_
          refine l_q (q_len rfl Try.underlying22 rfl rfl) ?_
          refine l_q (q_neq rfl rfl rfl) ?_
          refine l_q (q_move (v := .bool _) rfl rfl) ?_
          refine l_part 67 rfl (fun hc24 => ?_) (fun hc24 => ?_)
          ·
           replace hc24 := df (nt hc24)
           have g67 := hc24
           refine l_q (q_skip rfl) ?_
           refine l_q (q_skip rfl) ?_
           refine l_q (q_skip rfl) ?_
           refine l_q (q_skip rfl) ?_
           refine l_q (q_pick_t (v := .bool _) rfl rfl rfl) ?_
           refine l_q (q_move (v := .bool _) rfl rfl) ?_
           refine l_q (q_skip rfl) ?_
           refine l_q (q_skip rfl) ?_
           refine l_q (q_skip rfl) ?_
           refine l_q (q_skip rfl) ?_
           refine l_q (q_pick_t (v := .bool _) rfl rfl rfl) ?_
           refine l_nil ?_
           refine r_forget [(1, .pointer _), (4, .int _ _), (78, .bool _)] ⟨rfl, rfl, rfl, trivial⟩ (fun e25 => ?_)
           refine r_cond_t rfl ?_
           refine r_seq (r_region' ?_)
           refine l_q (q_assign (v := .int _ _) rfl rfl) ?_
           refine l_nil ?_
           refine r_ret_ (vs := [.int _ _]) rfl Try.func62 rfl (.nil _) ⟨rfl, trivial⟩ ?_
           exact ⟨vint_eq (fault_1 (by omega) (fun ⟨⟨⟨⟨h1, h2⟩, h3⟩, h4⟩, h5⟩ => by rw [all_bad (d := pv0) (p := fun x : PV => okPerson nd.length x.pn) hkp (okPerson_f (by omega))] at h4; cases h4)).symm, Ext.of_below hB⟩
          ·
           replace hc24 := dt (nf hc24)
           have g67 := hc24
           refine l_q (q_fieldAddr (o' := 1) rfl fld32_1 rfl) ?_
           refine l_q (q_load Try.isAgg3 rfl ((hb21.has (o := 1) rfl)) rfl) ?_
           refine l_o (o_call Try.call32 rfl (in10_ret _ _ _ _) rfl ?_)
           rintro _ w26 ⟨rfl, rfl⟩
           refine l_q (q_not rfl rfl) ?_
           refine l_q (q_pick_f (v := .bool _) rfl rfl rfl) ?_
           refine l_q (q_move (v := .bool _) rfl rfl) ?_
           refine l_part 73 rfl (fun hc27 => ?_) (fun hc27 => ?_)
           ·
            replace hc27 := b2f (nt hc27)
            have g73 := hc27
            refine l_q (q_skip rfl) ?_
            refine l_q (q_skip rfl) ?_
            refine l_q (q_skip rfl) ?_
            refine l_q (q_skip rfl) ?_
            refine l_q (q_pick_t (v := .bool _) rfl rfl rfl) ?_
            refine l_nil ?_
            refine r_forget [(1, .pointer _), (4, .int _ _), (78, .bool _)] ⟨rfl, rfl, rfl, trivial⟩ (fun e28 => ?_)
            refine r_cond_t rfl ?_
            refine r_seq (r_region' ?_)
            refine l_q (q_assign (v := .int _ _) rfl rfl) ?_
            refine l_nil ?_
            refine r_ret_ (vs := [.int _ _]) rfl Try.func62 rfl (.nil _) ⟨rfl, trivial⟩ ?_
            exact ⟨vint_eq (fault_1 (by omega) (fun ⟨⟨⟨⟨h1, h2⟩, h3⟩, h4⟩, h5⟩ => by rw [all_bad (d := pv0) (p := fun x : PV => okPerson nd.length x.pn) hkp (okPerson_f (by omega))] at h4; cases h4)).symm, Ext.of_below hB⟩
           ·
            replace hc27 := b2t (nf hc27)
            have g73 := hc27
            refine l_q (q_fieldAddr (o' := 2) rfl fld32_2 rfl) ?_
            refine l_q (q_load Try.isAgg3 rfl ((hb21.has (o := 2) rfl)) rfl) ?_
            refine l_o (o_call Try.call32 rfl (in10_ret _ _ _ _) rfl ?_)
            rintro _ w29 ⟨rfl, rfl⟩
            refine l_q (q_not rfl rfl) ?_
            refine l_q (q_pick_f (v := .bool _) rfl rfl rfl) ?_
            refine l_nil ?_
            refine r_forget [(1, .pointer _), (4, .int _ _), (78, .bool _)] ⟨rfl, rfl, rfl, trivial⟩ (fun e30 => ?_)
            refine r_cond rfl (fun hc31 => ?_) (fun hc31 => ?_)
            ·
             replace hc31 := b2f (nt hc31)
             have g78 := hc31
             refine r_seq (r_region' ?_)
             refine l_q (q_assign (v := .int _ _) rfl rfl) ?_
             refine l_nil ?_
             refine r_ret_ (vs := [.int _ _]) rfl Try.func62 rfl (.nil _) ⟨rfl, trivial⟩ ?_
             exact ⟨vint_eq (fault_1 (by omega) (fun ⟨⟨⟨⟨h1, h2⟩, h3⟩, h4⟩, h5⟩ => by rw [all_bad (d := pv0) (p := fun x : PV => okPerson nd.length x.pn) hkp (okPerson_f (by omega))] at h4; cases h4)).symm, Ext.of_below hB⟩
            ·
             replace hc31 := b2t (nf hc31)
             have g78 := hc31
             refine r_skip (r_inBlock (r_region' ?_))
             refine l_q (q_move (v := .int _ _) rfl rfl) ?_
             refine l_q (q_add rfl rfl (by omega) rfl) ?_
             refine l_q (q_assign (v := .int _ _) rfl rfl) ?_
             refine l_nil ?_
             exact ih18 (k + 1) _ _ ⟨⟨rfl, by first | rfl | exact vint_eq (by omega), trivial⟩, (by omega), (fun j hj => by rcases Nat.lt_succ_iff_lt_or_eq.1 hj with h | h; exact hq2 j h; subst h; exact okPerson_t (by omega)), hb1, hsz, hB⟩ (by first | omega | (dsimp only; omega))
         ·
          replace hc19 := dlt hc19
          refine r_exit rfl ?_
          refine r_seq (r_seq (r_region' ?_))
          refine l_q (q_assign (v := .int _ _) rfl rfl) ?_
          refine l_nil (r_block ?_)
          refine r_rounds (α := Nat) (fun k e wl => Knows e [(1, ptr b1 0), (6, vint (k : Int))] ∧ (k ≤ L.length) ∧ (∀ j, j < k → okIll nd.length pl.length (L.getD j sv0).xs = true) ∧ (Blk wl b1 [.slice na nd.length nc, .slice pa pl.length pc, .slice ca L.length cc]) ∧ (w.heap.size ≤ wl.heap.size) ∧ (Below w.heap.size w wl)) (fun k => L.length - k) 0 ?_ ?_
          ·
           exact ⟨⟨rfl, rfl, trivial⟩, (Nat.zero_le _), (fun i hi => absurd hi (Nat.not_lt_zero _)), hb1, hsz, hB⟩
          ·
           rintro k el32 wl32 ⟨hkn, hkk, hq3, hb1, hsz, hB⟩ ih32
           obtain ⟨e32, rfl⟩ := knows_env hkn
           refine r_seq (r_seq (r_region' ?_))
           refine l_q (q_move (v := .int _ _) rfl rfl) ?_
           refine l_q (q_fieldAddr (o' := 2) rfl fld26_2 rfl) ?_
           refine l_q (q_load Try.isAgg24 rfl ((hb1.has (o := 2) rfl)) rfl) ?_
           refine l_q (q_len rfl Try.underlying24 rfl rfl) ?_
           refine l_q (q_lss rfl rfl rfl) ?_
           refine l_nil ?_
           refine r_cond rfl (fun hc33 => ?_) (fun hc33 => ?_)
           ·
            replace hc33 := dt hc33
            have hkL : k < L.length := by omega
            have hks := hLs _ (getD_lt (d := sv0) hkL)
            refine r_skip (r_seq (r_block (r_seq (r_seq ?_))))
            refine r_draw ext_refl' ext_trans' [0, 1, 2, 3, 4, 5, 6, 7, 8, 9] [] 20 (by kernel_rfl) (by kernel_rfl) ?_
            intro w34 _ hE34
            replace hB := below_ext hB hE34 hsz
            replace hb1 := hb1.ext hE34
            replace hsz := Nat.le_trans hsz hE34.size
            refine m_q rfl rfl (fun w' hC' => q_fieldAddr (o' := 2) rfl fld26_2 rfl) ?_
            refine m_q rfl rfl (fun w' hC' => q_load Try.isAgg24 rfl (((hb1.has (o := 2) rfl).ext hC')) rfl) ?_
            refine m_q rfl rfl (fun w' hC' => q_move (v := .int _ _) rfl rfl) ?_
            obtain ⟨b35, o35, ha35, hh35⟩ := (hpo.rC.below hB).at1 k ((L).getD k sv0) (getD_some (by omega))
            refine m_q rfl rfl (fun w' hC' => q_indexAddr1 Try.underlying24 Try.sizeOf22 rfl ha35 rfl (by omega) rfl) ?_
            refine m_q rfl rfl (fun w' hC' => q_load Try.isAgg22 rfl ((hh35.ext hC')) rfl) ?_
            refine m_q rfl rfl (fun w' hC' => q_len rfl Try.underlying22 rfl rfl) ?_
            refine m_q rfl rfl (fun w' hC' => q_fieldAddr (o' := 1) rfl fld26_1 rfl) ?_
            refine m_q rfl rfl (fun w' hC' => q_load Try.isAgg23 rfl (((hb1.has (o := 1) rfl).ext hC')) rfl) ?_
            refine m_q rfl rfl (fun w' hC' => q_len rfl Try.underlying23 rfl rfl) ?_
            refine m_q rfl rfl (fun w' hC' => q_neq rfl rfl rfl) ?_
            refine m_nil ?_
            refine r_forget [(1, .pointer _), (6, .int _ _), (95, .bool _)] ⟨rfl, rfl, rfl, trivial⟩ (fun e36 => ?_)
            refine r_cond rfl (fun hc37 => ?_) (fun hc37 => ?_)
            ·
             replace hc37 := df (nt hc37)
             have g95 := hc37
             refine r_seq (r_region' ?_)
             refine l_q (q_assign (v := .int _ _) rfl rfl) ?_
             refine l_nil ?_
             refine r_ret_ (vs := [.int _ _]) rfl Try.func62 rfl (.nil _) ⟨rfl, trivial⟩ ?_
             exact ⟨vint_eq (fault_1 (by omega) (fun ⟨⟨⟨⟨h1, h2⟩, h3⟩, h4⟩, h5⟩ => by rw [all_bad (d := sv0) (p := fun s : SV => okIll nd.length pl.length s.xs) hkL (okIll_f1 (by omega))] at h5; cases h5)).symm, Ext.of_below hB⟩
            ·
             replace hc37 := dt (nf hc37)
             have g95 := hc37
             refine r_skip (r_seq (r_region' ?_))
             refine l_q (q_assign (v := .int _ _) rfl rfl) ?_
             refine l_nil (r_block ?_)
             refine r_rounds (α := Nat) (fun j e wl => Knows e [(1, ptr b1 0), (6, vint (k : Int)), (7, vint (j : Int))] ∧ (j ≤ pl.length) ∧ (∀ m, m < j → illIn nd.length ((L.getD k sv0).xs.getD m 0) = true) ∧ (Blk wl b1 [.slice na nd.length nc, .slice pa pl.length pc, .slice ca L.length cc]) ∧ (w.heap.size ≤ wl.heap.size) ∧ (Below w.heap.size w wl)) (fun j => pl.length - j) 0 ?_ ?_
             ·
              exact ⟨⟨rfl, rfl, rfl, trivial⟩, (Nat.zero_le _), (fun i hi => absurd hi (Nat.not_lt_zero _)), hb1, hsz, hB⟩
             ·
              rintro j el38 wl38 ⟨hkn, hkj, hq4, hb1, hsz, hB⟩ ih38
              obtain ⟨e38, rfl⟩ := knows_env hkn
              refine r_seq (r_seq (r_region' ?_))
              refine l_q (q_move (v := .int _ _) rfl rfl) ?_
              refine l_q (q_fieldAddr (o' := 1) rfl fld26_1 rfl) ?_
              refine l_q (q_load Try.isAgg23 rfl ((hb1.has (o := 1) rfl)) rfl) ?_
              refine l_q (q_len rfl Try.underlying23 rfl rfl) ?_
              refine l_q (q_lss rfl rfl rfl) ?_
              refine l_nil ?_
              refine r_cond rfl (fun hc39 => ?_) (fun hc39 => ?_)
              ·
               replace hc39 := dt hc39
               have hjp : j < pl.length := by omega
               refine r_skip (r_seq (r_block (r_seq ?_)))
               refine r_draw ext_refl' ext_trans' [0, 1, 2, 3, 4, 5, 6, 7, 8, 9, 10, 11, 12, 13] [12] 20 (by kernel_rfl) (by kernel_rfl) ?_
               intro w40 _ hE40
               replace hB := below_ext hB hE40 hsz
               replace hb1 := hb1.ext hE40
               replace hsz := Nat.le_trans hsz hE40.size
               refine m_q rfl rfl (fun w' hC' => q_fieldAddr (o' := 2) rfl fld26_2 rfl) ?_
               refine m_q rfl rfl (fun w' hC' => q_load Try.isAgg24 rfl (((hb1.has (o := 2) rfl).ext hC')) rfl) ?_
               refine m_q rfl rfl (fun w' hC' => q_move (v := .int _ _) rfl rfl) ?_
               obtain ⟨b41, o41, ha41, hh41⟩ := (hpo.rC.below hB).at1 k ((L).getD k sv0) (getD_some (by omega))
               refine m_q rfl rfl (fun w' hC' => q_indexAddr1 Try.underlying24 Try.sizeOf22 rfl ha41 rfl (by omega) rfl) ?_
               refine m_q rfl rfl (fun w' hC' => q_load Try.isAgg22 rfl ((hh41.ext hC')) rfl) ?_
               refine m_q rfl rfl (fun w' hC' => q_move (v := .int _ _) rfl rfl) ?_
               obtain ⟨b42, o42, ha42, hh42⟩ := ((RowsI.get (hpo.rCr) (i := k) (by omega)).below hB).at1 j ((((L).getD k sv0).xs).getD j 0) (getD_some (by omega))
               refine m_q rfl rfl (fun w' hC' => q_indexAddr1 Try.underlying22 Try.sizeOf3 rfl ha42 rfl (by omega) rfl) ?_
               refine m_q rfl rfl (fun w' hC' => q_load Try.isAgg3 rfl ((hh42.ext hC')) rfl) ?_
               refine m_q rfl rfl (fun w' hC' => q_fieldAddr (o' := 0) rfl fld26_0 rfl) ?_
               refine m_q rfl rfl (fun w' hC' => q_load Try.isAgg22 rfl (((hb1.has (o := 0) rfl).ext hC')) rfl) ?_
               refine m_q rfl rfl (fun w' hC' => q_len rfl Try.underlying22 rfl rfl) ?_
               refine m_q rfl rfl (fun w' hC' => q_sub rfl rfl (by omega) rfl) ?_
               refine m_o rfl rfl (o_call Try.call32 rfl (in10_ret _ _ _ _) rfl ?_)
               rintro _ w43 ⟨rfl, rfl⟩
               refine ⟨Ext.refl _, ?_⟩
               refine m_q rfl rfl (fun w' hC' => q_not rfl rfl) ?_
               refine m_nil ?_
               refine r_forget [(1, .pointer _), (6, .int _ _), (7, .int _ _), (116, .bool _)] ⟨rfl, rfl, rfl, rfl, trivial⟩ (fun e44 => ?_)
               refine r_cond rfl (fun hc45 => ?_) (fun hc45 => ?_)
               ·
                replace hc45 := b2f (nt hc45)
                have g116 := hc45
                refine r_seq (r_region' ?_)
                refine l_q (q_assign (v := .int _ _) rfl rfl) ?_
                refine l_nil ?_
                refine r_ret_ (vs := [.int _ _]) rfl Try.func62 rfl (.nil _) ⟨rfl, trivial⟩ ?_
                exact ⟨vint_eq (fault_1 (by omega) (fun ⟨⟨⟨⟨h1, h2⟩, h3⟩, h4⟩, h5⟩ => by rw [all_bad (d := sv0) (p := fun s : SV => okIll nd.length pl.length s.xs) hkL (okIll_f2 (j := j) (by omega) (illIn_f (by omega)))] at h5; cases h5)).symm, Ext.of_below hB⟩
               ·
                replace hc45 := b2t (nf hc45)
                have g116 := hc45
                refine r_skip (r_inBlock (r_region' ?_))
                refine l_q (q_move (v := .int _ _) rfl rfl) ?_
                refine l_q (q_add rfl rfl (by omega) rfl) ?_
                refine l_q (q_assign (v := .int _ _) rfl rfl) ?_
                refine l_nil ?_
                exact ih38 (j + 1) _ _ ⟨⟨rfl, rfl, by first | rfl | exact vint_eq (by omega), trivial⟩, (by omega), (fun j hj => by rcases Nat.lt_succ_iff_lt_or_eq.1 hj with h | h; exact hq4 j h; subst h; exact illIn_t (by omega)), hb1, hsz, hB⟩ (by first | omega | (dsimp only; omega))
              ·
               replace hc39 := dlt hc39
               refine r_exit rfl ?_
               refine r_inBlock (r_region' ?_)
               refine l_q (q_move (v := .int _ _) rfl rfl) ?_
               refine l_q (q_add rfl rfl (by omega) rfl) ?_
               refine l_q (q_assign (v := .int _ _) rfl rfl) ?_
               refine l_nil ?_
               exact ih32 (k + 1) _ _ ⟨⟨rfl, by first | rfl | exact vint_eq (by omega), trivial⟩, (by omega), (fun j hj => by rcases Nat.lt_succ_iff_lt_or_eq.1 hj with h | h; exact hq3 j h; subst h; exact okIll_t (by omega) (fun m hm => hq4 m (by omega))), hb1, hsz, hB⟩ (by first | omega | (dsimp only; omega))
           ·
            replace hc33 := dlt hc33
            refine r_exit rfl ?_
            refine r_seq (r_region' ?_)
            refine l_q (q_assign (v := .int _ _) rfl rfl) ?_
            refine l_nil ?_
            refine r_ret_ (vs := [.int _ _]) rfl Try.func62 rfl (.nil _) ⟨rfl, trivial⟩ ?_
            exact ⟨vint_eq (fault_0 (by omega) ⟨⟨⟨⟨by omega, by omega⟩, all_getD (d := 0) (fun j hj => hq j (by omega))⟩, all_getD (d := pv0) (p := fun x : PV => okPerson nd.length x.pn) (fun j hj => hq2 j (by omega))⟩, all_getD (d := sv0) (p := fun s : SV => okIll nd.length pl.length s.xs) (fun j hj => hq3 j (by omega))⟩).symm, Ext.of_below hB⟩
end Go.Proofs.Ytgdanglidienmaa
