/- Contracts. -/
import Derived.Test.YtbikicakdkbcgabGreatRP
set_option linter.unusedVariables false
set_option linter.unusedSimpArgs false
namespace Go.Proofs.YtbikicakdkbcgabGreat
open Go Go.RowKit Go.Gv Go.Fl

theorem okNeed_t {n : Int} (h : 0 ≤ n ∧ n ≤ 2) : okNeed n = true := by unfold okNeed; rw [decide_eq_true h.1, decide_eq_true h.2]; rfl
theorem okNeed_f {n : Int} (h : n < 0 ∨ 2 < n) : okNeed n = false := by unfold okNeed; rw [Bool.and_eq_false_iff, decide_eq_false_iff_not, decide_eq_false_iff_not]; omega
theorem okPerson_t {n : Nat} {x : PV} (h : (x.ab.length : Int) = n ∧ (0 ≤ x.r ∧ x.r ≤ 5) ∧ 0 ≤ x.m ∧ x.m ≤ 5) : okPerson n x.pn = true := by unfold okPerson PV.pn; simp only [Bool.and_eq_true, decide_eq_true_eq]; omega
theorem okPerson_f {n : Nat} {x : PV} (h : ¬ ((x.ab.length : Int) = n ∧ (0 ≤ x.r ∧ x.r ≤ 5) ∧ 0 ≤ x.m ∧ x.m ≤ 5)) : okPerson n x.pn = false := by
  rw [← Bool.not_eq_true]; intro h2; apply h; unfold okPerson PV.pn at h2; simp only [Bool.and_eq_true, decide_eq_true_eq] at h2; omega
theorem illIn_t {n : Nat} {x : Int} (h : -1 ≤ x ∧ x ≤ (n : Int) - 1) : illIn n x = true := by unfold illIn; rw [decide_eq_true h.1, decide_eq_true h.2]; rfl
theorem illIn_f {n : Nat} {x : Int} (h : x < -1 ∨ (n : Int) - 1 < x) : illIn n x = false := by unfold illIn; rw [Bool.and_eq_false_iff, decide_eq_false_iff_not, decide_eq_false_iff_not]; omega
theorem okIll_t {n k : Nat} {l : List Int} (h : (l.length : Int) = k) (h2 : ∀ m, m < l.length → illIn n (l.getD m 0) = true) : okIll n k l = true := by unfold okIll; rw [decide_eq_true h, all_getD (d := 0) h2]; rfl
theorem okIll_f1 {n k : Nat} {l : List Int} (h : ¬ (l.length : Int) = k) : okIll n k l = false := by unfold okIll; rw [decide_eq_false h]; rfl
theorem okIll_f2 {n k j : Nat} {l : List Int} (h : j < l.length) (h2 : illIn n (l.getD j 0) = false) : okIll n k l = false := by unfold okIll; rw [all_bad h h2, Bool.and_false]
theorem rAt_t {xs : List Int} {be : Int} {k : Nat} (hla : -1 ≤ lastAt xs k) (h : (0 ≤ xs.getD k 0 ∧ xs.getD k 0 ≤ be - 1)) (h2 : 0 < k → xs.getD (k - 1) 0 < xs.getD k 0) : rAt xs be k = true := by
  unfold rAt
  rw [decide_eq_true h.2, Bool.and_true, decide_eq_true_eq]
  cases k with
  | zero => show -1 + 1 ≤ _; omega
  | succ k => have := h2 (by omega); show xs.getD k 0 + 1 ≤ _; rw [Nat.add_sub_cancel] at this; omega
theorem rAt_f1 {xs : List Int} {be : Int} {k : Nat} (hla : -1 ≤ lastAt xs k) (h : xs.getD k 0 < 0 ∨ be - 1 < xs.getD k 0) : rAt xs be k = false := by
  unfold rAt
  rw [Bool.and_eq_false_iff, decide_eq_false_iff_not, decide_eq_false_iff_not]; omega
theorem rAt_f2 {xs : List Int} {be : Int} {k : Nat} (hk : 0 < k) (h : xs.getD k 0 ≤ xs.getD (k - 1) 0) : rAt xs be k = false := by
  obtain ⟨j, rfl⟩ : ∃ j, k = j + 1 := ⟨k - 1, by omega⟩
  rw [Nat.add_sub_cancel] at h
  unfold rAt
  rw [Bool.and_eq_false_iff, decide_eq_false_iff_not]; left
  show ¬ xs.getD j 0 + 1 ≤ _; omega
theorem ris_bad {xs : List Int} {be : Int} {k : Nat} (hk : k < xs.length) (h : rAt xs be k = false) : risB xs be = false := List.all_eq_false.2 ⟨k, List.mem_range.2 hk, by rw [h]; decide⟩
theorem ris_all {xs : List Int} {be : Int} (h : ∀ k, k < xs.length → rAt xs be k = true) : risB xs be = true := List.all_eq_true.2 fun k hk => h k (List.mem_range.1 hk)
/-- a rota -/
def isRB (nd : List Int) (n : Nat) (T : List (List Int)) : Bool := decide ((T.length : Int) = (nd.length : Int)) && T.all (fun l => risB l (n : Int))
theorem isRB_iff {nd : List Int} {n : Nat} {T : List (List Int)} : isRB nd n T = true ↔ IsR nd n T := by
  unfold isRB IsR
  rw [Bool.and_eq_true, decide_eq_true_eq, List.all_eq_true]
  exact ⟨fun h => ⟨by omega, h.2⟩, fun h => ⟨by omega, h.2⟩⟩
theorem isRB_no {nd : List Int} {n k : Nat} {R : List SV} (hk : k < R.length) (h : risB (R.getD k sv0).xs (n : Int) = false) : isRB nd n (R.map (·.xs)) = false := by
  unfold isRB
  rw [xs_all, all_bad (d := sv0) (p := fun s : SV => risB s.xs (n : Int)) hk h, Bool.and_false]
theorem isRB_yes {nd : List Int} {n : Nat} {R : List SV} (h : ∀ k, k < R.length → risB (R.getD k sv0).xs (n : Int) = true) : isRB nd n (R.map (·.xs)) = decide ((R.length : Int) = (nd.length : Int)) := by
  unfold isRB
  rw [xs_all, all_getD (d := sv0) (p := fun s : SV => risB s.xs (n : Int)) h, Bool.and_true, List.length_map]
theorem plan_isRB {nd : List Int} {pl : List PV} {L : List SV} {T : List (List Int)} : planP (po nd pl L) T = if ¬ faultP (po nd pl L) = 0 then faultP (po nd pl L) else if isRB nd pl.length T = true then 0 else 2 := by
  unfold planP isRB po
  simp only [List.length_map]
section
variable {x : PV} {i a b : Nat} {R : List SV}
end
theorem awkB_t1 {c : Nat} {L : List SV} {ix : List Int} {wt i : Int} (h : L.length ≤ c) : awkB (decide (L.length ≤ c)) ix wt i = true := by unfold awkB; rw [decide_eq_true h]; rfl
theorem awkB_t2 {b : Bool} {ix : List Int} {wt i : Int} (h : ix.getD i.toNat 0 = -1 ∨ wt < ix.getD i.toNat 0) : awkB b ix wt i = true := by
  unfold awkB
  rcases h with h | h
  · rw [decide_eq_true h]; simp
  · rw [decide_eq_true h]; simp
theorem awkB_f {c : Nat} {L : List SV} {ix : List Int} {wt i : Int} (h : c < L.length) (h1 : ¬ ix.getD i.toNat 0 = -1) (h2 : ix.getD i.toNat 0 ≤ wt) : awkB (decide (L.length ≤ c)) ix wt i = false := by unfold awkB; rw [decide_eq_false (by omega), decide_eq_false h1, decide_eq_false (by omega)]; rfl
theorem awk_full {nn : Bool} {ix xs : List Int} {wt : Int} {j : Nat} (h : xs.length ≤ j) : awkN nn ix wt (xs.take j) = awkN nn ix wt xs := by rw [List.take_of_length_le h]
section
variable {nd : List Int} {R L : List SV} {c k : Nat}
theorem failX_eq : failX nd (R.map (·.xs)) (L.map (·.xs)) c = idxI (fun k => decide (awkN (decide (L.length ≤ c)) (L.getD c sv0).xs (k : Int) (R.getD k sv0).xs < nd.getD k 0)) R.length := by
  unfold failX
  simp only [xs_at, List.length_map]
theorem failX_at (hk : k < R.length) (hq : ∀ j, j < k → decide (awkN (decide (L.length ≤ c)) (L.getD c sv0).xs (j : Int) (R.getD j sv0).xs < nd.getD j 0) = false) (h : decide (awkN (decide (L.length ≤ c)) (L.getD c sv0).xs (k : Int) (R.getD k sv0).xs < nd.getD k 0) = true) : failX nd (R.map (·.xs)) (L.map (·.xs)) c = (k : Int) := by
  rw [failX_eq]
  exact idxI_found (p := fun k => decide (awkN (decide (L.length ≤ c)) (L.getD c sv0).xs (k : Int) (R.getD k sv0).xs < nd.getD k 0)) hk h hq
theorem failX_no (hq : ∀ j, j < R.length → decide (awkN (decide (L.length ≤ c)) (L.getD c sv0).xs (j : Int) (R.getD j sv0).xs < nd.getD j 0) = false) : failX nd (R.map (·.xs)) (L.map (·.xs)) c = -1 := by
  rw [failX_eq]
  exact idxI_none (p := fun k => decide (awkN (decide (L.length ≤ c)) (L.getD c sv0).xs (k : Int) (R.getD k sv0).xs < nd.getD k 0)) hq
end
section
variable {R Q : List SV} {k : Nat}
end

theorem fld33_0 (w : World) (b o : Nat) : (Instr.fieldAt 33 (ptr b o) 0).run Tryz.prog w = .ok (ptr b (o + 0)) w := by
  simp [Instr.fieldAt, run_underlying Tryz.underlying33, fieldPlace, Instr.sureAddr, Tryz.sizeOf27, Addr.add_lit]
theorem fld33_1 (w : World) (b o : Nat) : (Instr.fieldAt 33 (ptr b o) 1).run Tryz.prog w = .ok (ptr b (o + 1)) w := by
  simp [Instr.fieldAt, run_underlying Tryz.underlying33, fieldPlace, Instr.sureAddr, Tryz.sizeOf30, Addr.add_lit]
theorem fld33_2 (w : World) (b o : Nat) : (Instr.fieldAt 33 (ptr b o) 2).run Tryz.prog w = .ok (ptr b (o + 2)) w := by
  simp [Instr.fieldAt, run_underlying Tryz.underlying33, fieldPlace, Instr.sureAddr, Tryz.sizeOf31, Addr.add_lit]
theorem fld72_0 (w : World) (b o : Nat) : (Instr.fieldAt 72 (ptr b o) 0).run Tryz.prog w = .ok (ptr b (o + 0)) w := by
  simp [Instr.fieldAt, run_underlying Tryz.underlying72, fieldPlace, Instr.sureAddr, Tryz.sizeOf54, Addr.add_lit]
theorem fld72_1 (w : World) (b o : Nat) : (Instr.fieldAt 72 (ptr b o) 1).run Tryz.prog w = .ok (ptr b (o + 1)) w := by
  simp [Instr.fieldAt, run_underlying Tryz.underlying72, fieldPlace, Instr.sureAddr, Tryz.sizeOf3, Addr.add_lit]
theorem fld72_2 (w : World) (b o : Nat) : (Instr.fieldAt 72 (ptr b o) 2).run Tryz.prog w = .ok (ptr b (o + 2)) w := by
  simp [Instr.fieldAt, run_underlying Tryz.underlying72, fieldPlace, Instr.sureAddr, Tryz.sizeOf3, Addr.add_lit]
theorem fault10_ret (na : Option Addr) (nc : Nat) (nd : List Int) (pa : Option Addr) (pc : Nat) (pl : List PV) (ca : Option Addr) (cc : Nat) (L : List SV) (w : World) (hpo : PoAt w na nc nd pa pc pl ca cc L) (hnl : nd.length ≤ 2097152) (hpll : pl.length ≤ 2097152) (hLl : L.length ≤ 2097152) (hLs : ∀ s ∈ L, s.xs.length ≤ 2097152) : Ret Tryz.prog 12 [.agg ⟨[.slice na nd.length nc, .slice pa pl.length pc, .slice ca L.length cc]⟩] w (fun v w' => v = vint (faultP (po nd pl L)) ∧ Ext w w') := by
 have hB := Below.refl w.heap.size w
 have hsz : w.heap.size ≤ w.heap.size := Nat.le_refl _
 refine ret_of_runs (args := [_]) Tryz.func12 rfl (Nat.le_of_ble_eq_true rfl) (by kernel_rfl) (r_seq (r_region' (l_o (o_box rfl rfl rfl ?_))))
 intro b1 w1 hzl1 hzr1 _ hb1 hE1
 have hbs_b1 : w.heap.size ≤ b1 := Nat.le_trans hsz hzl1
 replace hB := below_ext hB hE1 hsz
 replace hsz := Nat.le_trans hsz hE1.size
 refine l_q (qai rfl rfl) (l_nil (r_seq (r_seq (r_region' (l_q (q_fieldAddr (o' := 0) rfl fld33_0 rfl) (l_q (q_load Tryz.isAgg27 rfl ((hb1.has (o := 0) rfl)) rfl) (l_q (q_len rfl Tryz.underlying27 rfl rfl) (l_q (q_gtr rfl rfl rfl) (l_q (qmb rfl rfl) (l_part 12 rfl (fun hc2 => ?_) (fun hc2 => ?_)))))))))))
 ·
  replace hc2 := dt hc2
  have g12 := hc2
  refine l_q (q_skip rfl) (l_q (q_skip rfl) (l_q (q_skip rfl) (l_q (q_skip rfl) (l_q (q_pick_t (v := .bool _) rfl rfl rfl) (l_q (qmb rfl rfl) (l_q (q_skip rfl) (l_q (q_skip rfl) (l_q (q_skip rfl) (l_q (q_skip rfl) (l_q (q_pick_t (v := .bool _) rfl rfl rfl) (l_nil (r_forget [(1, .pointer _), (23, .bool _)] ⟨rfl, rfl, trivial⟩ (fun e3 => (r_cond_t rfl (r_seq (r_region' (l_q (qai rfl rfl) (l_nil (r_ret_ (vs := [.int _ _]) rfl Tryz.func12 rfl (.nil _) ⟨rfl, trivial⟩ ?_)))))))))))))))))))
  exact ⟨vint_eq (fault_3 (by omega)).symm, Ext.of_below hB⟩
 ·
  replace hc2 := dlt hc2
  have g12 := hc2
  refine l_q (q_fieldAddr (o' := 1) rfl fld33_1 rfl) (l_q (q_load Tryz.isAgg30 rfl ((hb1.has (o := 1) rfl)) rfl) (l_q (q_len rfl Tryz.underlying30 rfl rfl) (l_q (q_gtr rfl rfl rfl) (l_q (q_pick_f (v := .bool _) rfl rfl rfl) (l_q (qmb rfl rfl) (l_part 18 rfl (fun hc4 => ?_) (fun hc4 => ?_)))))))
  ·
   replace hc4 := dt hc4
   have g18 := hc4
   refine l_q (q_skip rfl) (l_q (q_skip rfl) (l_q (q_skip rfl) (l_q (q_skip rfl) (l_q (q_pick_t (v := .bool _) rfl rfl rfl) (l_nil (r_forget [(1, .pointer _), (23, .bool _)] ⟨rfl, rfl, trivial⟩ (fun e5 => (r_cond_t rfl (r_seq (r_region' (l_q (qai rfl rfl) (l_nil (r_ret_ (vs := [.int _ _]) rfl Tryz.func12 rfl (.nil _) ⟨rfl, trivial⟩ ?_)))))))))))))
   exact ⟨vint_eq (fault_3 (by omega)).symm, Ext.of_below hB⟩
  ·
   replace hc4 := dlt hc4
   have g18 := hc4
   refine l_q (q_fieldAddr (o' := 2) rfl fld33_2 rfl) (l_q (q_load Tryz.isAgg31 rfl ((hb1.has (o := 2) rfl)) rfl) (l_q (q_len rfl Tryz.underlying31 rfl rfl) (l_q (q_gtr rfl rfl rfl) (l_q (q_pick_f (v := .bool _) rfl rfl rfl) (l_nil (r_forget [(1, .pointer _), (23, .bool _)] ⟨rfl, rfl, trivial⟩ (fun e6 => (r_cond rfl (fun hc7 => ?_) (fun hc7 => ?_)))))))))
   ·
    replace hc7 := dt hc7
    have g23 := hc7
    refine r_seq (r_region' (l_q (qai rfl rfl) (l_nil (r_ret_ (vs := [.int _ _]) rfl Tryz.func12 rfl (.nil _) ⟨rfl, trivial⟩ ?_))))
    exact ⟨vint_eq (fault_3 (by omega)).symm, Ext.of_below hB⟩
   ·
    replace hc7 := dlt hc7
    have g23 := hc7
    refine r_skip (r_seq (r_seq (r_region' (l_q (q_fieldAddr (o' := 0) rfl fld33_0 rfl) (l_q (q_load Tryz.isAgg27 rfl ((hb1.has (o := 0) rfl)) rfl) (l_q (q_len rfl Tryz.underlying27 rfl rfl) (l_q (q_eql rfl rfl rfl) (l_q (qmb rfl rfl) (l_part 28 rfl (fun hc8 => ?_) (fun hc8 => ?_))))))))))
    ·
     replace hc8 := dt hc8
     have g28 := hc8
     refine l_q (q_skip rfl) (l_q (q_skip rfl) (l_q (q_skip rfl) (l_q (q_skip rfl) (l_q (q_pick_t (v := .bool _) rfl rfl rfl) (l_nil (r_forget [(1, .pointer _), (33, .bool _)] ⟨rfl, rfl, trivial⟩ (fun e9 => (r_cond_t rfl (r_seq (r_region' (l_q (qai rfl rfl) (l_nil (r_ret_ (vs := [.int _ _]) rfl Tryz.func12 rfl (.nil _) ⟨rfl, trivial⟩ ?_)))))))))))))
     exact ⟨vint_eq (fault_1 (by omega) (fun ⟨⟨⟨⟨h1, h2⟩, h3⟩, h4⟩, h5⟩ => by omega)).symm, Ext.of_below hB⟩
    ·
     replace hc8 := df hc8
     have g28 := hc8
     refine l_q (q_fieldAddr (o' := 1) rfl fld33_1 rfl) (l_q (q_load Tryz.isAgg30 rfl ((hb1.has (o := 1) rfl)) rfl) (l_q (q_len rfl Tryz.underlying30 rfl rfl) (l_q (q_eql rfl rfl rfl) (l_q (q_pick_f (v := .bool _) rfl rfl rfl) (l_nil (r_forget [(1, .pointer _), (33, .bool _)] ⟨rfl, rfl, trivial⟩ (fun e10 => (r_cond rfl (fun hc11 => ?_) (fun hc11 => ?_)))))))))
     ·
      replace hc11 := dt hc11
      have g33 := hc11
      refine r_seq (r_region' (l_q (qai rfl rfl) (l_nil (r_ret_ (vs := [.int _ _]) rfl Tryz.func12 rfl (.nil _) ⟨rfl, trivial⟩ ?_))))
      exact ⟨vint_eq (fault_1 (by omega) (fun ⟨⟨⟨⟨h1, h2⟩, h3⟩, h4⟩, h5⟩ => by omega)).symm, Ext.of_below hB⟩
     ·
      replace hc11 := df hc11
      have g33 := hc11
      refine r_skip (r_seq (r_seq (r_region' (l_q (qai rfl rfl) (l_nil (r_block (r_rounds (α := Nat) (fun k e wl => Knows e [(1, ptr b1 0), (3, vint (k : Int))] ∧ (k ≤ nd.length) ∧ (∀ j, j < k → okNeed (nd.getD j 0) = true) ∧ (Blk wl b1 [.slice na nd.length nc, .slice pa pl.length pc, .slice ca L.length cc]) ∧ (w.heap.size ≤ wl.heap.size) ∧ (Below w.heap.size w wl)) (fun k => nd.length - k) 0 ?_ ?_)))))))
      ·
       exact ⟨⟨rfl, rfl, trivial⟩, (Nat.zero_le _), (fun i hi => absurd hi (Nat.not_lt_zero _)), hb1, hsz, hB⟩
      ·
       rintro k el12 wl12 ⟨hkn, hkk, hq, hb1, hsz, hB⟩ ih12
       obtain ⟨e12, rfl⟩ := knows_env hkn
       refine r_seq (r_seq (r_region' (l_q (qmi rfl rfl) (l_q (q_fieldAddr (o' := 0) rfl fld33_0 rfl) (l_q (q_load Tryz.isAgg27 rfl ((hb1.has (o := 0) rfl)) rfl) (l_q (q_len rfl Tryz.underlying27 rfl rfl) (l_q (q_lss rfl rfl rfl) (l_nil (r_cond rfl (fun hc13 => ?_) (fun hc13 => ?_))))))))))
       ·
        replace hc13 := dt hc13
        have hkn : k < nd.length := by omega
        refine r_skip (r_seq (r_block (r_seq (r_region' (l_q (q_fieldAddr (o' := 0) rfl fld33_0 rfl) (l_q (q_load Tryz.isAgg27 rfl ((hb1.has (o := 0) rfl)) rfl) (l_q (qmi rfl rfl) ?_)))))))
        obtain ⟨b14, o14, ha14, hh14⟩ := (hpo.rnd.below hB).at1 k ((nd).getD k 0) (getD_some (by omega))
        refine l_q (q_indexAddr1 Tryz.underlying27 Tryz.sizeOf3 rfl ha14 rfl (by omega) rfl) (l_q (q_load Tryz.isAgg3 rfl (hh14) rfl) (l_o (o_call Tryz.call31 rfl (in10_ret _ _ _ _) rfl ?_)))
        rintro _ w15 ⟨rfl, rfl⟩
        refine l_q (q_not rfl rfl) (l_nil (r_forget [(1, .pointer _), (3, .int _ _), (47, .bool _)] ⟨rfl, rfl, rfl, trivial⟩ (fun e16 => (r_cond rfl (fun hc17 => ?_) (fun hc17 => ?_)))))
        ·
         replace hc17 := b2f (nt hc17)
         have g47 := hc17
         refine r_seq (r_region' (l_q (qai rfl rfl) (l_nil (r_ret_ (vs := [.int _ _]) rfl Tryz.func12 rfl (.nil _) ⟨rfl, trivial⟩ ?_))))
         exact ⟨vint_eq (fault_1 (by omega) (fun ⟨⟨⟨⟨h1, h2⟩, h3⟩, h4⟩, h5⟩ => by rw [all_bad (d := 0) hkn (okNeed_f (by omega))] at h3; cases h3)).symm, Ext.of_below hB⟩
        ·
         replace hc17 := b2t (nf hc17)
         have g47 := hc17
         refine r_skip (r_inBlock (r_region' (l_q (qmi rfl rfl) (l_q (q_add rfl rfl (by omega) rfl) (l_q (qai rfl rfl) (l_nil ?_))))))
         exact ih12 (k + 1) _ _ ⟨⟨rfl, by first | rfl | exact vint_eq (by omega), trivial⟩, (by omega), (fun j hj => by rcases Nat.lt_succ_iff_lt_or_eq.1 hj with h | h; exact hq j h; subst h; exact okNeed_t (by omega)), hb1, hsz, hB⟩ (by first | omega | (dsimp only; omega))
       ·
        replace hc13 := dlt hc13
        refine r_exit rfl (r_seq (r_seq (r_region' (l_q (qai rfl rfl) (l_nil (r_block (r_rounds (α := Nat) (fun k e wl => Knows e [(1, ptr b1 0), (4, vint (k : Int))] ∧ (k ≤ pl.length) ∧ (∀ j, j < k → okPerson nd.length (pl.getD j pv0).pn = true) ∧ (Blk wl b1 [.slice na nd.length nc, .slice pa pl.length pc, .slice ca L.length cc]) ∧ (w.heap.size ≤ wl.heap.size) ∧ (Below w.heap.size w wl)) (fun k => pl.length - k) 0 ?_ ?_)))))))
        ·
         exact ⟨⟨rfl, rfl, trivial⟩, (Nat.zero_le _), (fun i hi => absurd hi (Nat.not_lt_zero _)), hb1, hsz, hB⟩
        ·
         rintro k el18 wl18 ⟨hkn, hkk, hq2, hb1, hsz, hB⟩ ih18
         obtain ⟨e18, rfl⟩ := knows_env hkn
         refine r_seq (r_seq (r_region' (l_q (qmi rfl rfl) (l_q (q_fieldAddr (o' := 1) rfl fld33_1 rfl) (l_q (q_load Tryz.isAgg30 rfl ((hb1.has (o := 1) rfl)) rfl) (l_q (q_len rfl Tryz.underlying30 rfl rfl) (l_q (q_lss rfl rfl rfl) (l_nil (r_cond rfl (fun hc19 => ?_) (fun hc19 => ?_))))))))))
         ·
          replace hc19 := dt hc19
          have hkp : k < pl.length := by omega
          refine r_skip (r_seq (r_block (r_seq (r_region' (l_q (q_fieldAddr (o' := 1) rfl fld33_1 rfl) (l_q (q_load Tryz.isAgg30 rfl ((hb1.has (o := 1) rfl)) rfl) (l_q (qmi rfl rfl) ?_)))))))
          obtain ⟨b20, o20, ha20, hh20⟩ := (hpo.rpl.below hB).at (by decide) k (by omega)
          refine l_q (q_indexAddr Tryz.underlying30 Tryz.sizeOf72 rfl ha20 rfl (by omega) rfl) (l_q (q_load_agg (cs := [.slice (((pl).getD k pv0).a) (((pl).getD k pv0).ab.length) (((pl).getD k pv0).c), vint (((pl).getD k pv0).r), vint (((pl).getD k pv0).m)]) (n := 3) Tryz.isAgg72 Tryz.sizeOf72 rfl ((cells_cast (wide_at PV.len pv0 _ _ (by omega)) hh20)) rfl rfl) (l_o (o_alloc Tryz.zeroValue72 rfl rfl ?_)))
          intro b21 w21 hzl21 hzr21 _ hb21 hE21
          have hne_b1_b21 : b1 ≠ b21 := by have := hb1.lt; omega
          have hbs_b21 : w.heap.size ≤ b21 := Nat.le_trans hsz hzl21
          replace hB := below_ext hB hE21 hsz
          replace hb1 := hb1.ext hE21
          replace hsz := Nat.le_trans hsz hE21.size
          refine l_o (o_store (vs := [.slice (((pl).getD k pv0).a) (((pl).getD k pv0).ab.length) (((pl).getD k pv0).c), vint (((pl).getD k pv0).r), vint (((pl).getD k pv0).m)]) (cs' := [.slice (((pl).getD k pv0).a) (((pl).getD k pv0).ab.length) (((pl).getD k pv0).c), vint (((pl).getD k pv0).r), vint (((pl).getD k pv0).m)]) Tryz.sizeOf72 rfl rfl rfl rfl hb21 (Nat.le_of_ble_eq_true rfl) rfl rfl ?_)
          intro w22 hz22 hb21 hG22
          replace hB := below_upd hB hG22 hsz (by omega)
          replace hsz : w.heap.size ≤ w22.heap.size := by rw [hz22]; exact hsz
          replace hb1 := hb1.upd hG22 (by omega)
          refine l_nil (r_forget [(1, .pointer _), (4, .int _ _), (5, .pointer _)] ⟨rfl, rfl, rfl, trivial⟩ (fun e23 => (r_seq (r_region' (l_q (q_fieldAddr (o' := 0) rfl fld72_0 rfl) (l_q (q_load Tryz.isAgg54 rfl ((hb21.has (o := 0) rfl)) rfl) (l_q (q_len rfl Tryz.underlying54 rfl rfl) (l_q (q_fieldAddr (o' := 0) rfl fld33_0 rfl) (l_q (q_load Tryz.isAgg27 rfl ((hb1.has (o := 0) rfl)) rfl) (l_q (q_len rfl Tryz.underlying27 rfl rfl) (l_q (q_neq rfl rfl rfl) (l_q (qmb rfl rfl) (l_part 67 rfl (fun hc24 => ?_) (fun hc24 => ?_))))))))))))))
          ·
           replace hc24 := df (nt hc24)
           have g67 := hc24
           refine l_q (q_skip rfl) (l_q (q_skip rfl) (l_q (q_skip rfl) (l_q (q_skip rfl) (l_q (q_pick_t (v := .bool _) rfl rfl rfl) (l_q (qmb rfl rfl) (l_q (q_skip rfl) (l_q (q_skip rfl) (l_q (q_skip rfl) (l_q (q_skip rfl) (l_q (q_pick_t (v := .bool _) rfl rfl rfl) (l_nil (r_forget [(1, .pointer _), (4, .int _ _), (78, .bool _)] ⟨rfl, rfl, rfl, trivial⟩ (fun e25 => (r_cond_t rfl (r_seq (r_region' (l_q (qai rfl rfl) (l_nil (r_ret_ (vs := [.int _ _]) rfl Tryz.func12 rfl (.nil _) ⟨rfl, trivial⟩ ?_)))))))))))))))))))
           exact ⟨vint_eq (fault_1 (by omega) (fun ⟨⟨⟨⟨h1, h2⟩, h3⟩, h4⟩, h5⟩ => by rw [all_bad (d := pv0) (p := fun x : PV => okPerson nd.length x.pn) hkp (okPerson_f (by omega))] at h4; cases h4)).symm, Ext.of_below hB⟩
          ·
           replace hc24 := dt (nf hc24)
           have g67 := hc24
           refine l_q (q_fieldAddr (o' := 1) rfl fld72_1 rfl) (l_q (q_load Tryz.isAgg3 rfl ((hb21.has (o := 1) rfl)) rfl) (l_o (o_call Tryz.call31 rfl (in10_ret _ _ _ _) rfl ?_)))
           rintro _ w26 ⟨rfl, rfl⟩
           refine l_q (q_not rfl rfl) (l_q (q_pick_f (v := .bool _) rfl rfl rfl) (l_q (qmb rfl rfl) (l_part 73 rfl (fun hc27 => ?_) (fun hc27 => ?_))))
           ·
            replace hc27 := b2f (nt hc27)
            have g73 := hc27
            refine l_q (q_skip rfl) (l_q (q_skip rfl) (l_q (q_skip rfl) (l_q (q_skip rfl) (l_q (q_pick_t (v := .bool _) rfl rfl rfl) (l_nil (r_forget [(1, .pointer _), (4, .int _ _), (78, .bool _)] ⟨rfl, rfl, rfl, trivial⟩ (fun e28 => (r_cond_t rfl (r_seq (r_region' (l_q (qai rfl rfl) (l_nil (r_ret_ (vs := [.int _ _]) rfl Tryz.func12 rfl (.nil _) ⟨rfl, trivial⟩ ?_)))))))))))))
            exact ⟨vint_eq (fault_1 (by omega) (fun ⟨⟨⟨⟨h1, h2⟩, h3⟩, h4⟩, h5⟩ => by rw [all_bad (d := pv0) (p := fun x : PV => okPerson nd.length x.pn) hkp (okPerson_f (by omega))] at h4; cases h4)).symm, Ext.of_below hB⟩
           ·
            replace hc27 := b2t (nf hc27)
            have g73 := hc27
            refine l_q (q_fieldAddr (o' := 2) rfl fld72_2 rfl) (l_q (q_load Tryz.isAgg3 rfl ((hb21.has (o := 2) rfl)) rfl) (l_o (o_call Tryz.call31 rfl (in10_ret _ _ _ _) rfl ?_)))
            rintro _ w29 ⟨rfl, rfl⟩
            refine l_q (q_not rfl rfl) (l_q (q_pick_f (v := .bool _) rfl rfl rfl) (l_nil (r_forget [(1, .pointer _), (4, .int _ _), (78, .bool _)] ⟨rfl, rfl, rfl, trivial⟩ (fun e30 => (r_cond rfl (fun hc31 => ?_) (fun hc31 => ?_))))))
            ·
             replace hc31 := b2f (nt hc31)
             have g78 := hc31
             refine r_seq (r_region' (l_q (qai rfl rfl) (l_nil (r_ret_ (vs := [.int _ _]) rfl Tryz.func12 rfl (.nil _) ⟨rfl, trivial⟩ ?_))))
             exact ⟨vint_eq (fault_1 (by omega) (fun ⟨⟨⟨⟨h1, h2⟩, h3⟩, h4⟩, h5⟩ => by rw [all_bad (d := pv0) (p := fun x : PV => okPerson nd.length x.pn) hkp (okPerson_f (by omega))] at h4; cases h4)).symm, Ext.of_below hB⟩
            ·
             replace hc31 := b2t (nf hc31)
             have g78 := hc31
             refine r_skip (r_inBlock (r_region' (l_q (qmi rfl rfl) (l_q (q_add rfl rfl (by omega) rfl) (l_q (qai rfl rfl) (l_nil ?_))))))
             exact ih18 (k + 1) _ _ ⟨⟨rfl, by first | rfl | exact vint_eq (by omega), trivial⟩, (by omega), (fun j hj => by rcases Nat.lt_succ_iff_lt_or_eq.1 hj with h | h; exact hq2 j h; subst h; exact okPerson_t (by omega)), hb1, hsz, hB⟩ (by first | omega | (dsimp only; omega))
         ·
          replace hc19 := dlt hc19
          refine r_exit rfl (r_seq (r_seq (r_region' (l_q (qai rfl rfl) (l_nil (r_block (r_rounds (α := Nat) (fun k e wl => Knows e [(1, ptr b1 0), (6, vint (k : Int))] ∧ (k ≤ L.length) ∧ (∀ j, j < k → okIll nd.length pl.length (L.getD j sv0).xs = true) ∧ (Blk wl b1 [.slice na nd.length nc, .slice pa pl.length pc, .slice ca L.length cc]) ∧ (w.heap.size ≤ wl.heap.size) ∧ (Below w.heap.size w wl)) (fun k => L.length - k) 0 ?_ ?_)))))))
          ·
           exact ⟨⟨rfl, rfl, trivial⟩, (Nat.zero_le _), (fun i hi => absurd hi (Nat.not_lt_zero _)), hb1, hsz, hB⟩
          ·
           rintro k el32 wl32 ⟨hkn, hkk, hq3, hb1, hsz, hB⟩ ih32
           obtain ⟨e32, rfl⟩ := knows_env hkn
           refine r_seq (r_seq (r_region' (l_q (qmi rfl rfl) (l_q (q_fieldAddr (o' := 2) rfl fld33_2 rfl) (l_q (q_load Tryz.isAgg31 rfl ((hb1.has (o := 2) rfl)) rfl) (l_q (q_len rfl Tryz.underlying31 rfl rfl) (l_q (q_lss rfl rfl rfl) (l_nil (r_cond rfl (fun hc33 => ?_) (fun hc33 => ?_))))))))))
           ·
            replace hc33 := dt hc33
            have hkL : k < L.length := by omega
            have hks := hLs _ (getD_lt (d := sv0) hkL)
            refine r_skip (r_seq (r_block (r_seq (r_seq (r_draw ext_refl' ext_trans' [0, 1, 2, 3, 4, 5, 6, 7, 8, 9] [] 20 (by kernel_rfl) (by kernel_rfl) ?_)))))
            intro w34 _ hE34
            replace hB := below_ext hB hE34 hsz
            replace hb1 := hb1.ext hE34
            replace hsz := Nat.le_trans hsz hE34.size
            refine m_q rfl rfl (fun w' hC' => q_fieldAddr (o' := 2) rfl fld33_2 rfl) (m_q rfl rfl (fun w' hC' => q_load Tryz.isAgg31 rfl (((hb1.has (o := 2) rfl).ext hC')) rfl) (m_q rfl rfl (fun w' hC' => qmi rfl rfl) ?_))
            obtain ⟨b35, o35, ha35, hh35⟩ := (hpo.rC.below hB).at1 k ((L).getD k sv0) (getD_some (by omega))
            refine m_q rfl rfl (fun w' hC' => q_indexAddr1 Tryz.underlying31 Tryz.sizeOf27 rfl ha35 rfl (by omega) rfl) (m_q rfl rfl (fun w' hC' => q_load Tryz.isAgg27 rfl ((hh35.ext hC')) rfl) (m_q rfl rfl (fun w' hC' => q_len rfl Tryz.underlying27 rfl rfl) (m_q rfl rfl (fun w' hC' => q_fieldAddr (o' := 1) rfl fld33_1 rfl) (m_q rfl rfl (fun w' hC' => q_load Tryz.isAgg30 rfl (((hb1.has (o := 1) rfl).ext hC')) rfl) (m_q rfl rfl (fun w' hC' => q_len rfl Tryz.underlying30 rfl rfl) (m_q rfl rfl (fun w' hC' => q_neq rfl rfl rfl) (m_nil (r_forget [(1, .pointer _), (6, .int _ _), (95, .bool _)] ⟨rfl, rfl, rfl, trivial⟩ (fun e36 => (r_cond rfl (fun hc37 => ?_) (fun hc37 => ?_)))))))))))
            ·
             replace hc37 := df (nt hc37)
             have g95 := hc37
             refine r_seq (r_region' (l_q (qai rfl rfl) (l_nil (r_ret_ (vs := [.int _ _]) rfl Tryz.func12 rfl (.nil _) ⟨rfl, trivial⟩ ?_))))
             exact ⟨vint_eq (fault_1 (by omega) (fun ⟨⟨⟨⟨h1, h2⟩, h3⟩, h4⟩, h5⟩ => by rw [all_bad (d := sv0) (p := fun s : SV => okIll nd.length pl.length s.xs) hkL (okIll_f1 (by omega))] at h5; cases h5)).symm, Ext.of_below hB⟩
            ·
             replace hc37 := dt (nf hc37)
             have g95 := hc37
             refine r_skip (r_seq (r_region' (l_q (qai rfl rfl) (l_nil (r_block (r_rounds (α := Nat) (fun j e wl => Knows e [(1, ptr b1 0), (6, vint (k : Int)), (7, vint (j : Int))] ∧ (j ≤ pl.length) ∧ (∀ m, m < j → illIn nd.length ((L.getD k sv0).xs.getD m 0) = true) ∧ (Blk wl b1 [.slice na nd.length nc, .slice pa pl.length pc, .slice ca L.length cc]) ∧ (w.heap.size ≤ wl.heap.size) ∧ (Below w.heap.size w wl)) (fun j => pl.length - j) 0 ?_ ?_))))))
             ·
              exact ⟨⟨rfl, rfl, rfl, trivial⟩, (Nat.zero_le _), (fun i hi => absurd hi (Nat.not_lt_zero _)), hb1, hsz, hB⟩
             ·
              rintro j el38 wl38 ⟨hkn, hkj, hq4, hb1, hsz, hB⟩ ih38
              obtain ⟨e38, rfl⟩ := knows_env hkn
              refine r_seq (r_seq (r_region' (l_q (qmi rfl rfl) (l_q (q_fieldAddr (o' := 1) rfl fld33_1 rfl) (l_q (q_load Tryz.isAgg30 rfl ((hb1.has (o := 1) rfl)) rfl) (l_q (q_len rfl Tryz.underlying30 rfl rfl) (l_q (q_lss rfl rfl rfl) (l_nil (r_cond rfl (fun hc39 => ?_) (fun hc39 => ?_))))))))))
              ·
               replace hc39 := dt hc39
               have hjp : j < pl.length := by omega
               refine r_skip (r_seq (r_block (r_seq (r_draw ext_refl' ext_trans' [0, 1, 2, 3, 4, 5, 6, 7, 8, 9, 10, 11, 12, 13] [12] 20 (by kernel_rfl) (by kernel_rfl) ?_))))
               intro w40 _ hE40
               replace hB := below_ext hB hE40 hsz
               replace hb1 := hb1.ext hE40
               replace hsz := Nat.le_trans hsz hE40.size
               refine m_q rfl rfl (fun w' hC' => q_fieldAddr (o' := 2) rfl fld33_2 rfl) (m_q rfl rfl (fun w' hC' => q_load Tryz.isAgg31 rfl (((hb1.has (o := 2) rfl).ext hC')) rfl) (m_q rfl rfl (fun w' hC' => qmi rfl rfl) ?_))
               obtain ⟨b41, o41, ha41, hh41⟩ := (hpo.rC.below hB).at1 k ((L).getD k sv0) (getD_some (by omega))
               refine m_q rfl rfl (fun w' hC' => q_indexAddr1 Tryz.underlying31 Tryz.sizeOf27 rfl ha41 rfl (by omega) rfl) (m_q rfl rfl (fun w' hC' => q_load Tryz.isAgg27 rfl ((hh41.ext hC')) rfl) (m_q rfl rfl (fun w' hC' => qmi rfl rfl) ?_))
               obtain ⟨b42, o42, ha42, hh42⟩ := ((RowsI.get (hpo.rCr) (i := k) (by omega)).below hB).at1 j ((((L).getD k sv0).xs).getD j 0) (getD_some (by omega))
               refine m_q rfl rfl (fun w' hC' => q_indexAddr1 Tryz.underlying27 Tryz.sizeOf3 rfl ha42 rfl (by omega) rfl) (m_q rfl rfl (fun w' hC' => q_load Tryz.isAgg3 rfl ((hh42.ext hC')) rfl) (m_q rfl rfl (fun w' hC' => q_fieldAddr (o' := 0) rfl fld33_0 rfl) (m_q rfl rfl (fun w' hC' => q_load Tryz.isAgg27 rfl (((hb1.has (o := 0) rfl).ext hC')) rfl) (m_q rfl rfl (fun w' hC' => q_len rfl Tryz.underlying27 rfl rfl) (m_q rfl rfl (fun w' hC' => q_sub rfl rfl (by omega) rfl) (m_o rfl rfl (o_call Tryz.call31 rfl (in10_ret _ _ _ _) rfl ?_)))))))
               rintro _ w43 ⟨rfl, rfl⟩
               refine ⟨Ext.refl _, ?_⟩
               refine m_q rfl rfl (fun w' hC' => q_not rfl rfl) (m_nil (r_forget [(1, .pointer _), (6, .int _ _), (7, .int _ _), (116, .bool _)] ⟨rfl, rfl, rfl, rfl, trivial⟩ (fun e44 => (r_cond rfl (fun hc45 => ?_) (fun hc45 => ?_)))))
               ·
                replace hc45 := b2f (nt hc45)
                have g116 := hc45
                refine r_seq (r_region' (l_q (qai rfl rfl) (l_nil (r_ret_ (vs := [.int _ _]) rfl Tryz.func12 rfl (.nil _) ⟨rfl, trivial⟩ ?_))))
                exact ⟨vint_eq (fault_1 (by omega) (fun ⟨⟨⟨⟨h1, h2⟩, h3⟩, h4⟩, h5⟩ => by rw [all_bad (d := sv0) (p := fun s : SV => okIll nd.length pl.length s.xs) hkL (okIll_f2 (j := j) (by omega) (illIn_f (by omega)))] at h5; cases h5)).symm, Ext.of_below hB⟩
               ·
                replace hc45 := b2t (nf hc45)
                have g116 := hc45
                refine r_skip (r_inBlock (r_region' (l_q (qmi rfl rfl) (l_q (q_add rfl rfl (by omega) rfl) (l_q (qai rfl rfl) (l_nil ?_))))))
                exact ih38 (j + 1) _ _ ⟨⟨rfl, rfl, by first | rfl | exact vint_eq (by omega), trivial⟩, (by omega), (fun j hj => by rcases Nat.lt_succ_iff_lt_or_eq.1 hj with h | h; exact hq4 j h; subst h; exact illIn_t (by omega)), hb1, hsz, hB⟩ (by first | omega | (dsimp only; omega))
              ·
               replace hc39 := dlt hc39
               refine r_exit rfl (r_inBlock (r_region' (l_q (qmi rfl rfl) (l_q (q_add rfl rfl (by omega) rfl) (l_q (qai rfl rfl) (l_nil ?_))))))
               exact ih32 (k + 1) _ _ ⟨⟨rfl, by first | rfl | exact vint_eq (by omega), trivial⟩, (by omega), (fun j hj => by rcases Nat.lt_succ_iff_lt_or_eq.1 hj with h | h; exact hq3 j h; subst h; exact okIll_t (by omega) (fun m hm => hq4 m (by omega))), hb1, hsz, hB⟩ (by first | omega | (dsimp only; omega))
           ·
            replace hc33 := dlt hc33
            refine r_exit rfl (r_seq (r_region' (l_q (qai rfl rfl) (l_nil (r_ret_ (vs := [.int _ _]) rfl Tryz.func12 rfl (.nil _) ⟨rfl, trivial⟩ ?_)))))
            exact ⟨vint_eq (fault_0 (by omega) ⟨⟨⟨⟨by omega, by omega⟩, all_getD (d := 0) (fun j hj => hq j (by omega))⟩, all_getD (d := pv0) (p := fun x : PV => okPerson nd.length x.pn) (fun j hj => hq2 j (by omega))⟩, all_getD (d := sv0) (p := fun s : SV => okIll nd.length pl.length s.xs) (fun j hj => hq3 j (by omega))⟩).symm, Ext.of_below hB⟩
theorem rising_ret (xa : Option Addr) (xc : Nat) (xs : List Int) (be : Int) (w : World) (hx : Row w xa xs.length xc 1 (xs.map vint)) (hxn : xs.length ≤ 2097152) (hbe : 0 ≤ be ∧ be ≤ 2097152) : Ret Tryz.prog 49 [.slice xa xs.length xc, vint be] w (fun v w' => v = .bool (risB xs be) ∧ Ext w w') := by
 have hB := Below.refl w.heap.size w
 have hsz : w.heap.size ≤ w.heap.size := Nat.le_refl _
 refine ret_of_runs (args := [_, _]) Tryz.func49 rfl (Nat.le_of_ble_eq_true rfl) (by kernel_rfl) (r_seq (r_region' (l_q (qab rfl rfl) (l_nil (r_seq (r_seq (r_region' (l_q (qai rfl rfl) (l_nil (r_block (r_rounds (α := Nat) (fun k e wl => Knows e [(0, .slice xa xs.length xc), (1, vint be), (5, vint (k : Int))] ∧ (k ≤ xs.length) ∧ (∀ j, j < k → rAt xs be j = true) ∧ (-1 ≤ lastAt xs k) ∧ (w.heap.size ≤ wl.heap.size) ∧ (Below w.heap.size w wl)) (fun k => xs.length - k) 0 ?_ ?_)))))))))))
 ·
  exact ⟨⟨rfl, rfl, rfl, trivial⟩, (Nat.zero_le _), (fun i hi => absurd hi (Nat.not_lt_zero _)), (show (-1 : Int) ≤ -1 from Int.le_refl _), hsz, hB⟩
 ·
  rintro k el1 wl1 ⟨hkn, hkk, hq, hla, hsz, hB⟩ ih1
  obtain ⟨e1, rfl⟩ := knows_env hkn
  refine r_seq (r_seq (r_region' (l_q (qmi rfl rfl) (l_q (qms rfl rfl) (l_q (q_len rfl Tryz.underlying27 rfl rfl) (l_q (q_lss rfl rfl rfl) (l_nil (r_cond rfl (fun hc2 => ?_) (fun hc2 => ?_)))))))))
  ·
   replace hc2 := dt hc2
   have hkx : k < xs.length := by omega
   refine r_skip (r_seq (r_block (r_seq (r_draw ext_refl' ext_trans' [0, 1, 2, 3, 4, 5, 6, 7, 8, 9, 10, 11, 12, 13, 14, 15, 16, 17, 18, 19, 20, 21, 22, 23] [6] 30 (by kernel_rfl) (by kernel_rfl) ?_))))
   intro w3 _ hE3
   replace hB := below_ext hB hE3 hsz
   replace hsz := Nat.le_trans hsz hE3.size
   refine m_q rfl rfl (fun w' hC' => qms rfl rfl) (m_q rfl rfl (fun w' hC' => qmi rfl rfl) ?_)
   obtain ⟨b4, o4, ha4, hh4⟩ := (hx.below hB).at1 k ((xs).getD k 0) (getD_some (by omega))
   refine m_q rfl rfl (fun w' hC' => q_indexAddr1 Tryz.underlying27 Tryz.sizeOf3 rfl ha4 rfl (by omega) rfl) (m_q rfl rfl (fun w' hC' => q_load Tryz.isAgg3 rfl ((hh4.ext hC')) rfl) (m_q rfl rfl (fun w' hC' => qmi rfl rfl) (m_q rfl rfl (fun w' hC' => q_sub rfl rfl (by omega) rfl) (m_o rfl rfl (o_call Tryz.call31 rfl (in10_ret _ _ _ _) rfl ?_)))))
   rintro _ w5 ⟨rfl, rfl⟩
   refine ⟨Ext.refl _, ?_⟩
   refine m_q rfl rfl (fun w' hC' => q_not rfl rfl) (m_q rfl rfl (fun w' hC' => qmb rfl rfl) (m_part 20 rfl (fun hc6 => ?_) (fun hc6 => ?_)))
   ·
    replace hc6 := b2f (nt hc6)
    have g20 := hc6
    refine m_q rfl rfl (fun w' hC' => q_skip rfl) (m_q rfl rfl (fun w' hC' => q_skip rfl) (m_q rfl rfl (fun w' hC' => q_skip rfl) (m_q rfl rfl (fun w' hC' => q_skip rfl) (m_q rfl rfl (fun w' hC' => q_skip rfl) (m_q rfl rfl (fun w' hC' => q_skip rfl) (m_q rfl rfl (fun w' hC' => q_skip rfl) (m_q rfl rfl (fun w' hC' => q_skip rfl) (m_q rfl rfl (fun w' hC' => q_skip rfl) (m_q rfl rfl (fun w' hC' => q_skip rfl) (m_q rfl rfl (fun w' hC' => q_skip rfl) (m_q rfl rfl (fun w' hC' => q_skip rfl) (m_q rfl rfl (fun w' hC' => q_skip rfl) (m_q rfl rfl (fun w' hC' => q_skip rfl) (m_q rfl rfl (fun w' hC' => q_pick_t (v := .bool _) rfl rfl rfl) (m_nil (r_forget [(0, .slice _ _ _), (1, .int _ _), (5, .int _ _), (35, .bool _)] ⟨rfl, rfl, rfl, rfl, trivial⟩ (fun e7 => (r_cond_t rfl (r_seq (r_region' (l_q (qab rfl rfl) (l_nil (r_ret_ (vs := [.bool _]) rfl Tryz.func49 rfl (.nil _) ⟨rfl, trivial⟩ ?_)))))))))))))))))))))))
    exact ⟨vbool_eq (ris_bad hkx (by first | exact rAt_f1 hla (by omega) | exact rAt_f2 (by omega) (by omega))).symm, Ext.of_below hB⟩
   ·
    replace hc6 := b2t (nf hc6)
    have g20 := hc6
    refine m_q rfl rfl (fun w' hC' => qmi rfl rfl) (m_q rfl rfl (fun w' hC' => q_gtr rfl rfl rfl) (m_q rfl rfl (fun w' hC' => qmb rfl rfl) (m_part 23 rfl (fun hc8 => ?_) (fun hc8 => ?_))))
    ·
     replace hc8 := dt hc8
     have g23 := hc8
     have hk1 : ((k : Int) - 1).toNat = k - 1 := by omega
     refine m_q rfl rfl (fun w' hC' => qms rfl rfl) (m_q rfl rfl (fun w' hC' => qmi rfl rfl) ?_)
     obtain ⟨b9, o9, ha9, hh9⟩ := (hx.below hB).at1 k ((xs).getD k 0) (getD_some (by omega))
     refine m_q rfl rfl (fun w' hC' => q_indexAddr1 Tryz.underlying27 Tryz.sizeOf3 rfl ha9 rfl (by omega) rfl) (m_q rfl rfl (fun w' hC' => q_load Tryz.isAgg3 rfl ((hh9.ext hC')) rfl) (m_q rfl rfl (fun w' hC' => qms rfl rfl) (m_q rfl rfl (fun w' hC' => qmi rfl rfl) (m_q rfl rfl (fun w' hC' => q_sub rfl rfl (by omega) rfl) ?_))))
     obtain ⟨b10, o10, ha10, hh10⟩ := (hx.below hB).at1 ((k : Int) - 1).toNat ((xs).getD ((k : Int) - 1).toNat 0) (getD_some (by omega))
     refine m_q rfl rfl (fun w' hC' => q_indexAddr1 Tryz.underlying27 Tryz.sizeOf3 rfl ha10 rfl (by omega) rfl) (m_q rfl rfl (fun w' hC' => q_load Tryz.isAgg3 rfl ((hh10.ext hC')) rfl) (m_q rfl rfl (fun w' hC' => q_leq rfl rfl rfl) (m_q rfl rfl (fun w' hC' => q_pick_t (v := .bool _) rfl rfl rfl) (m_q rfl rfl (fun w' hC' => q_pick_f (v := .bool _) rfl rfl rfl) (m_nil (r_forget [(0, .slice _ _ _), (1, .int _ _), (5, .int _ _), (35, .bool _)] ⟨rfl, rfl, rfl, rfl, trivial⟩ (fun e11 => (r_cond rfl (fun hc12 => ?_) (fun hc12 => ?_)))))))))
     ·
      replace hc12 := dt hc12
      have g35 := hc12
      try rw [hk1] at g35
      refine r_seq (r_region' (l_q (qab rfl rfl) (l_nil (r_ret_ (vs := [.bool _]) rfl Tryz.func49 rfl (.nil _) ⟨rfl, trivial⟩ ?_))))
      exact ⟨vbool_eq (ris_bad hkx (by first | exact rAt_f1 hla (by omega) | exact rAt_f2 (by omega) (by omega))).symm, Ext.of_below hB⟩
     ·
      replace hc12 := dle hc12
      have g35 := hc12
      try rw [hk1] at g35
      refine r_skip (r_inBlock (r_region' (l_q (qmi rfl rfl) (l_q (q_add rfl rfl (by omega) rfl) (l_q (qai rfl rfl) (l_nil ?_))))))
      exact ih1 (k + 1) _ _ ⟨⟨rfl, rfl, by first | rfl | exact vint_eq (by omega), trivial⟩, (by omega), (fun j hj => by rcases Nat.lt_succ_iff_lt_or_eq.1 hj with h | h; exact hq j h; subst h; exact rAt_t hla (by omega) (by omega)), (by show -1 ≤ xs.getD k 0; omega), hsz, hB⟩ (by first | omega | (dsimp only; omega))
    ·
     replace hc8 := dlt hc8
     have g23 := hc8
     refine m_q rfl rfl (fun w' hC' => q_skip rfl) (m_q rfl rfl (fun w' hC' => q_skip rfl) (m_q rfl rfl (fun w' hC' => q_skip rfl) (m_q rfl rfl (fun w' hC' => q_skip rfl) (m_q rfl rfl (fun w' hC' => q_skip rfl) (m_q rfl rfl (fun w' hC' => q_skip rfl) (m_q rfl rfl (fun w' hC' => q_skip rfl) (m_q rfl rfl (fun w' hC' => q_skip rfl) (m_q rfl rfl (fun w' hC' => q_skip rfl) (m_q rfl rfl (fun w' hC' => q_skip rfl) (m_q rfl rfl (fun w' hC' => q_pick_f (v := .bool _) rfl rfl rfl) (m_q rfl rfl (fun w' hC' => q_pick_f (v := .bool _) rfl rfl rfl) (m_nil (r_forget [(0, .slice _ _ _), (1, .int _ _), (5, .int _ _), (35, .bool _)] ⟨rfl, rfl, rfl, rfl, trivial⟩ (fun e13 => (r_cond_f rfl (r_skip (r_inBlock (r_region' (l_q (qmi rfl rfl) (l_q (q_add rfl rfl (by omega) rfl) (l_q (qai rfl rfl) (l_nil ?_))))))))))))))))))))))
     exact ih1 (k + 1) _ _ ⟨⟨rfl, rfl, by first | rfl | exact vint_eq (by omega), trivial⟩, (by omega), (fun j hj => by rcases Nat.lt_succ_iff_lt_or_eq.1 hj with h | h; exact hq j h; subst h; exact rAt_t hla (by omega) (by omega)), (by show -1 ≤ xs.getD k 0; omega), hsz, hB⟩ (by first | omega | (dsimp only; omega))
  ·
   replace hc2 := dlt hc2
   refine r_exit rfl (r_seq (r_region' (l_q (qab rfl rfl) (l_nil (r_ret_ (vs := [.bool _]) rfl Tryz.func49 rfl (.nil _) ⟨rfl, trivial⟩ ?_)))))
   exact ⟨vbool_eq (ris_all (fun j hj => hq j (by omega))).symm, Ext.of_below hB⟩
theorem isRota_ret (na : Option Addr) (nc : Nat) (nd : List Int) (pa : Option Addr) (pc : Nat) (pl : List PV) (ca : Option Addr) (cc : Nat) (L : List SV) (ra : Option Addr) (rc : Nat) (R : List SV) (w : World) (hpo : PoAt w na nc nd pa pc pl ca cc L) (hnl : nd.length ≤ 2097152) (hpll : pl.length ≤ 2097152) (hLl : L.length ≤ 2097152) (hR : Row w ra R.length rc 1 (R.map SV.enc)) (hRr : RowsI w R) (hRl : R.length ≤ 2097152) (hRx : ∀ s ∈ R, s.xs.length ≤ 2097152) : Ret Tryz.prog 18 [.agg ⟨[.slice na nd.length nc, .slice pa pl.length pc, .slice ca L.length cc]⟩, .slice ra R.length rc] w (fun v w' => v = .bool (isRB nd pl.length (R.map (·.xs))) ∧ Ext w w') := by
 have hB := Below.refl w.heap.size w
 have hsz : w.heap.size ≤ w.heap.size := Nat.le_refl _
 refine ret_of_runs (args := [_, _]) Tryz.func18 rfl (Nat.le_of_ble_eq_true rfl) (by kernel_rfl) (r_seq (r_region' (l_o (o_box rfl rfl rfl ?_))))
 intro b1 w1 hzl1 hzr1 _ hb1 hE1
 have hbs_b1 : w.heap.size ≤ b1 := Nat.le_trans hsz hzl1
 replace hB := below_ext hB hE1 hsz
 replace hsz := Nat.le_trans hsz hE1.size
 refine l_q (qab rfl rfl) (l_nil (r_seq (r_seq (r_region' (l_q (qai rfl rfl) (l_nil (r_block (r_rounds (α := Nat) (fun k e wl => Knows e [(1, .slice ra R.length rc), (2, ptr b1 0), (5, vint (k : Int))] ∧ (k ≤ R.length) ∧ (∀ j, j < k → risB (R.getD j sv0).xs (pl.length : Int) = true) ∧ (Blk wl b1 [.slice na nd.length nc, .slice pa pl.length pc, .slice ca L.length cc]) ∧ (w.heap.size ≤ wl.heap.size) ∧ (Below w.heap.size w wl)) (fun k => R.length - k) 0 ?_ ?_))))))))
 ·
  exact ⟨⟨rfl, rfl, rfl, trivial⟩, (Nat.zero_le _), (fun i hi => absurd hi (Nat.not_lt_zero _)), hb1, hsz, hB⟩
 ·
  rintro k el2 wl2 ⟨hkn, hkk, hq, hb1, hsz, hB⟩ ih2
  obtain ⟨e2, rfl⟩ := knows_env hkn
  refine r_seq (r_seq (r_region' (l_q (qmi rfl rfl) (l_q (qms rfl rfl) (l_q (q_len rfl Tryz.underlying31 rfl rfl) (l_q (q_lss rfl rfl rfl) (l_nil (r_cond rfl (fun hc3 => ?_) (fun hc3 => ?_)))))))))
  ·
   replace hc3 := dt hc3
   have hkR : k < R.length := by omega
   have hkx := hRx _ (getD_lt (d := sv0) hkR)
   refine r_skip (r_seq (r_block (r_seq (r_draw ext_refl' ext_trans' [0, 1, 2, 3, 4, 5, 6, 7, 8] [7] 20 (by kernel_rfl) (by kernel_rfl) ?_))))
   intro w4 _ hE4
   replace hB := below_ext hB hE4 hsz
   replace hb1 := hb1.ext hE4
   replace hsz := Nat.le_trans hsz hE4.size
   refine m_q rfl rfl (fun w' hC' => qms rfl rfl) (m_q rfl rfl (fun w' hC' => qmi rfl rfl) ?_)
   obtain ⟨b5, o5, ha5, hh5⟩ := (hR.below hB).at1 k ((R).getD k sv0) (getD_some (by omega))
   refine m_q rfl rfl (fun w' hC' => q_indexAddr1 Tryz.underlying31 Tryz.sizeOf27 rfl ha5 rfl (by omega) rfl) (m_q rfl rfl (fun w' hC' => q_load Tryz.isAgg27 rfl ((hh5.ext hC')) rfl) (m_q rfl rfl (fun w' hC' => q_fieldAddr (o' := 1) rfl fld33_1 rfl) (m_q rfl rfl (fun w' hC' => q_load Tryz.isAgg30 rfl (((hb1.has (o := 1) rfl).ext hC')) rfl) (m_q rfl rfl (fun w' hC' => q_len rfl Tryz.underlying30 rfl rfl) (m_o rfl rfl (o_call Tryz.call49 rfl (rising_ret _ _ (((R).getD k sv0).xs) _ _ ((RowsI.get (hRr) (i := k) (by omega)).below hB) (by omega) (by omega)) rfl ?_))))))
   rintro _ w6 ⟨rfl, hE6⟩
   refine ⟨hE6, ?_⟩
   replace hB := below_ext hB hE6 hsz
   replace hb1 := hb1.ext hE6
   replace hsz := Nat.le_trans hsz hE6.size
   refine m_q rfl rfl (fun w' hC' => q_not rfl rfl) (m_nil (r_forget [(1, .slice _ _ _), (2, .pointer _), (5, .int _ _), (20, .bool _)] ⟨rfl, rfl, rfl, rfl, trivial⟩ (fun e7 => (r_cond rfl (fun hc8 => ?_) (fun hc8 => ?_)))))
   ·
    replace hc8 := nt hc8
    have g20 := hc8
    refine r_seq (r_region' (l_q (qab rfl rfl) (l_nil (r_ret_ (vs := [.bool _]) rfl Tryz.func18 rfl (.nil _) ⟨rfl, trivial⟩ ?_))))
    exact ⟨vbool_eq (isRB_no hkR g20).symm, Ext.of_below hB⟩
   ·
    replace hc8 := nf hc8
    have g20 := hc8
    refine r_skip (r_inBlock (r_region' (l_q (qmi rfl rfl) (l_q (q_add rfl rfl (by omega) rfl) (l_q (qai rfl rfl) (l_nil ?_))))))
    exact ih2 (k + 1) _ _ ⟨⟨rfl, rfl, by first | rfl | exact vint_eq (by omega), trivial⟩, (by omega), (fun j hj => by rcases Nat.lt_succ_iff_lt_or_eq.1 hj with h | h; exact hq j h; subst h; exact g20), hb1, hsz, hB⟩ (by first | omega | (dsimp only; omega))
  ·
   replace hc3 := dlt hc3
   refine r_exit rfl (r_seq (r_region' (l_q (qms rfl rfl) (l_q (q_len rfl Tryz.underlying31 rfl rfl) (l_q (q_fieldAddr (o' := 0) rfl fld33_0 rfl) (l_q (q_load Tryz.isAgg27 rfl ((hb1.has (o := 0) rfl)) rfl) (l_q (q_len rfl Tryz.underlying27 rfl rfl) (l_q (q_eql rfl rfl rfl) (l_q (qab rfl rfl) (l_nil (r_forget [(4, .bool _)] ⟨rfl, trivial⟩ (fun e9 => (r_ret_ (vs := [.bool _]) rfl Tryz.func18 rfl (.nil _) ⟨rfl, trivial⟩ ?_)))))))))))))
   exact ⟨vbool_eq (isRB_yes (fun j hj => hq j (by omega))).symm, Ext.of_below hB⟩
theorem fails10_ret (na : Option Addr) (nc : Nat) (nd : List Int) (pa : Option Addr) (pc : Nat) (pl : List PV) (ca : Option Addr) (cc : Nat) (L : List SV) (ra : Option Addr) (rc : Nat) (R : List SV) (c : Nat) (w : World) (hpo : PoAt w na nc nd pa pc pl ca cc L) (hok : faultP (po nd pl L) = 0) (hR : Row w ra R.length rc 1 (R.map SV.enc)) (hRr : RowsI w R) (hRl : R.length ≤ 2097152) (hRx : ∀ s ∈ R, s.xs.length ≤ 2097152) (hRn : R.length ≤ nd.length) (hRo : ∀ s ∈ R, ∀ i ∈ s.xs, 0 ≤ i ∧ i ≤ (pl.length : Int) - 1) (hc2 : c ≤ 2097152) : Ret Tryz.prog 19 [.agg ⟨[.slice na nd.length nc, .slice pa pl.length pc, .slice ca L.length cc]⟩, .slice ra R.length rc, vint (c : Int)] w (fun v w' => v = vint (failX nd (R.map (·.xs)) (L.map (·.xs)) c) ∧ Ext w w') := by
 obtain ⟨⟨hn1, hn5⟩, ⟨hp1, hp4⟩, hL4, hnn, hpp, hLL⟩ := po_ok hok
 have hB := Below.refl w.heap.size w
 have hsz : w.heap.size ≤ w.heap.size := Nat.le_refl _
 refine ret_of_runs (args := [_, _, _]) Tryz.func19 rfl (Nat.le_of_ble_eq_true rfl) (by kernel_rfl) (r_seq (r_region' (l_o (o_box rfl rfl rfl ?_))))
 intro b1 w1 hzl1 hzr1 _ hb1 hE1
 have hbs_b1 : w.heap.size ≤ b1 := Nat.le_trans hsz hzl1
 replace hB := below_ext hB hE1 hsz
 replace hsz := Nat.le_trans hsz hE1.size
 refine l_q (qai rfl rfl) (l_nil (r_seq (r_seq (r_region' (l_q (qai rfl rfl) (l_nil (r_block (r_rounds (α := Nat) (fun k e wl => Knows e [(1, .slice ra R.length rc), (2, vint (c : Int)), (3, ptr b1 0), (7, vint (k : Int))] ∧ (k ≤ R.length) ∧ (∀ j, j < k → decide (awkN (decide (L.length ≤ c)) (L.getD c sv0).xs (j : Int) (R.getD j sv0).xs < nd.getD j 0) = false) ∧ (Blk wl b1 [.slice na nd.length nc, .slice pa pl.length pc, .slice ca L.length cc]) ∧ (w.heap.size ≤ wl.heap.size) ∧ (Below w.heap.size w wl)) (fun k => R.length - k) 0 ?_ ?_))))))))
 ·
  exact ⟨⟨rfl, rfl, rfl, rfl, trivial⟩, (Nat.zero_le _), (fun i hi => absurd hi (Nat.not_lt_zero _)), hb1, hsz, hB⟩
 ·
  rintro k el2 wl2 ⟨hkn, hkk, hq, hb1, hsz, hB⟩ ih2
  obtain ⟨e2, rfl⟩ := knows_env hkn
  refine r_seq (r_seq (r_region' (l_q (qmi rfl rfl) (l_q (qms rfl rfl) (l_q (q_len rfl Tryz.underlying31 rfl rfl) (l_q (q_lss rfl rfl rfl) (l_nil (r_cond rfl (fun hc3 => ?_) (fun hc3 => ?_)))))))))
  ·
   replace hc3 := dt hc3
   have hkR : k < R.length := by omega
   have hkx := hRx _ (getD_lt (d := sv0) hkR)
   have hko := hRo _ (getD_lt (d := sv0) hkR)
   refine r_skip (r_seq (r_block (r_seq (r_region' (l_q (qai rfl rfl) (l_nil (r_seq (r_seq (r_region' (l_q (qai rfl rfl) (l_nil (r_block (r_rounds (α := Nat × Int) (fun ⟨j, n⟩ e wl => Knows e [(1, .slice ra R.length rc), (2, vint (c : Int)), (3, ptr b1 0), (7, vint (k : Int)), (8, vint n), (9, vint (j : Int))] ∧ (j ≤ (R.getD k sv0).xs.length) ∧ (n = awkN (decide (L.length ≤ c)) (L.getD c sv0).xs (k : Int) ((R.getD k sv0).xs.take j)) ∧ (0 ≤ n ∧ n ≤ j) ∧ (Blk wl b1 [.slice na nd.length nc, .slice pa pl.length pc, .slice ca L.length cc]) ∧ (w.heap.size ≤ wl.heap.size) ∧ (Below w.heap.size w wl)) (fun ⟨j, n⟩ => (R.getD k sv0).xs.length - j) (0, 0) ?_ ?_)))))))))))))
   ·
    exact ⟨⟨rfl, rfl, rfl, rfl, rfl, rfl, trivial⟩, (Nat.zero_le _), rfl, (by omega), hb1, hsz, hB⟩
   ·
    rintro ⟨j, n⟩ el4 wl4 ⟨hkn, hj, hn, hnb, hb1, hsz, hB⟩ ih4
    obtain ⟨e4, rfl⟩ := knows_env hkn
    refine r_seq (r_seq (r_region' (l_q (qmi rfl rfl) (l_q (qms rfl rfl) (l_q (qmi rfl rfl) ?_)))))
    obtain ⟨b5, o5, ha5, hh5⟩ := (hR.below hB).at1 k ((R).getD k sv0) (getD_some (by omega))
    refine l_q (q_indexAddr1 Tryz.underlying31 Tryz.sizeOf27 rfl ha5 rfl (by omega) rfl) (l_q (q_load Tryz.isAgg27 rfl (hh5) rfl) (l_q (q_len rfl Tryz.underlying27 rfl rfl) (l_q (q_lss rfl rfl rfl) (l_nil (r_cond rfl (fun hc6 => ?_) (fun hc6 => ?_))))))
    ·
     replace hc6 := dt hc6
     have hjx : j < (R.getD k sv0).xs.length := by omega
     have hjo := hko _ (getD_lt (d := 0) hjx)
     refine r_skip (r_seq (r_block (r_seq (r_region' (l_q (qai rfl rfl) (l_nil (r_seq (r_seq (r_region' (l_q (qmi rfl rfl) (l_q (q_fieldAddr (o' := 2) rfl fld33_2 rfl) (l_q (q_load Tryz.isAgg31 rfl ((hb1.has (o := 2) rfl)) rfl) (l_q (q_len rfl Tryz.underlying31 rfl rfl) (l_q (q_lss rfl rfl rfl) (l_nil (r_forget [(1, .slice _ _ _), (2, .int _ _), (3, .pointer _), (7, .int _ _), (8, .int _ _), (9, .int _ _), (10, .int _ _), (30, .bool _)] ⟨rfl, rfl, rfl, rfl, rfl, rfl, rfl, rfl, trivial⟩ (fun e7 => (r_cond rfl (fun hc8 => ?_) (fun hc8 => ?_)))))))))))))))))))
     ·
      replace hc8 := dt hc8
      have hcL : c < L.length := by omega
      have hcx := (hLL _ (getD_lt (d := sv0) hcL)).1
      have hcb := (hLL _ (getD_lt (d := sv0) hcL)).2 _ (getD_lt (d := 0) (i := ((R.getD k sv0).xs.getD j 0).toNat) (by omega))
      refine r_draw ext_refl' ext_trans' [0, 1, 2, 3, 4, 5, 6, 7, 8, 9, 10, 11, 12, 13, 14] [] 30 (by kernel_rfl) (by kernel_rfl) ?_
      intro w9 _ hE9
      replace hB := below_ext hB hE9 hsz
      replace hb1 := hb1.ext hE9
      replace hsz := Nat.le_trans hsz hE9.size
      refine m_q rfl rfl (fun w' hC' => q_fieldAddr (o' := 2) rfl fld33_2 rfl) (m_q rfl rfl (fun w' hC' => q_load Tryz.isAgg31 rfl (((hb1.has (o := 2) rfl).ext hC')) rfl) (m_q rfl rfl (fun w' hC' => qmi rfl rfl) ?_))
      obtain ⟨b10, o10, ha10, hh10⟩ := (hpo.rC.below hB).at1 c ((L).getD c sv0) (getD_some (by omega))
      refine m_q rfl rfl (fun w' hC' => q_indexAddr1 Tryz.underlying31 Tryz.sizeOf27 rfl ha10 rfl (by omega) rfl) (m_q rfl rfl (fun w' hC' => q_load Tryz.isAgg27 rfl ((hh10.ext hC')) rfl) (m_q rfl rfl (fun w' hC' => qms rfl rfl) (m_q rfl rfl (fun w' hC' => qmi rfl rfl) ?_)))
      obtain ⟨b11, o11, ha11, hh11⟩ := (hR.below hB).at1 k ((R).getD k sv0) (getD_some (by omega))
      refine m_q rfl rfl (fun w' hC' => q_indexAddr1 Tryz.underlying31 Tryz.sizeOf27 rfl ha11 rfl (by omega) rfl) (m_q rfl rfl (fun w' hC' => q_load Tryz.isAgg27 rfl ((hh11.ext hC')) rfl) (m_q rfl rfl (fun w' hC' => qmi rfl rfl) ?_))
      obtain ⟨b12, o12, ha12, hh12⟩ := ((RowsI.get (hRr) (i := k) (by omega)).below hB).at1 j ((((R).getD k sv0).xs).getD j 0) (getD_some (by omega))
      refine m_q rfl rfl (fun w' hC' => q_indexAddr1 Tryz.underlying27 Tryz.sizeOf3 rfl ha12 rfl (by omega) rfl) (m_q rfl rfl (fun w' hC' => q_load Tryz.isAgg3 rfl ((hh12.ext hC')) rfl) ?_)
      obtain ⟨b13, o13, ha13, hh13⟩ := ((RowsI.get (hpo.rCr) (i := c) (by omega)).below hB).at1 ((((R).getD k sv0).xs).getD j 0).toNat ((((L).getD c sv0).xs).getD ((((R).getD k sv0).xs).getD j 0).toNat 0) (getD_some (by omega))
      refine m_q rfl rfl (fun w' hC' => q_indexAddr1 Tryz.underlying27 Tryz.sizeOf3 rfl ha13 rfl (by omega) rfl) (m_q rfl rfl (fun w' hC' => q_load Tryz.isAgg3 rfl ((hh13.ext hC')) rfl) (m_q rfl rfl (fun w' hC' => qai rfl rfl) (m_nil (r_forget [(1, .slice _ _ _), (2, .int _ _), (3, .pointer _), (7, .int _ _), (8, .int _ _), (9, .int _ _), (10, .int _ _)] ⟨rfl, rfl, rfl, rfl, rfl, rfl, rfl, trivial⟩ (fun e14 => (r_seq (r_region' (l_q (qmi rfl rfl) (l_q (q_lss rfl rfl rfl) (l_q (qmb rfl rfl) (l_part 47 rfl (fun hc15 => ?_) (fun hc15 => ?_))))))))))))
      ·
       replace hc15 := dt hc15
       have g47 := hc15
       refine l_q (q_skip rfl) (l_q (q_skip rfl) (l_q (q_skip rfl) (l_q (q_pick_t (v := .bool _) rfl rfl rfl) (l_nil (r_cond_t rfl (r_region' (l_q (qmi rfl rfl) (l_q (q_add rfl rfl (by omega) rfl) (l_q (qai rfl rfl) (l_nil (r_forget [(1, .slice _ _ _), (2, .int _ _), (3, .pointer _), (7, .int _ _), (8, .int _ _), (9, .int _ _)] ⟨rfl, rfl, rfl, rfl, rfl, rfl, trivial⟩ (fun e16 => (r_inBlock (r_region' (l_q (qmi rfl rfl) (l_q (q_add rfl rfl (by omega) rfl) (l_q (qai rfl rfl) (l_nil ?_))))))))))))))))))
       exact ih4 (j + 1, n + 1) _ _ ⟨⟨rfl, rfl, rfl, rfl, rfl, (vint_eq (by omega)), trivial⟩, (by omega), (by rw [hn]; first | exact awk_yes hjx (awkB_t1 (by omega)) | exact awk_yes hjx (awkB_t2 (by omega)) | exact awk_no hjx (awkB_f (by omega) (by omega) (by omega))), (by omega), hb1, hsz, hB⟩ (by first | omega | (dsimp only; omega))
      ·
       replace hc15 := dlt hc15
       have g47 := hc15
       refine l_q (qmi rfl rfl) (l_q (qmi rfl rfl) (l_q (q_lss rfl rfl rfl) (l_q (q_pick_f (v := .bool _) rfl rfl rfl) (l_nil (r_cond rfl (fun hc17 => ?_) (fun hc17 => ?_))))))
       ·
        replace hc17 := dt hc17
        have g51 := hc17
        refine r_region' (l_q (qmi rfl rfl) (l_q (q_add rfl rfl (by omega) rfl) (l_q (qai rfl rfl) (l_nil (r_forget [(1, .slice _ _ _), (2, .int _ _), (3, .pointer _), (7, .int _ _), (8, .int _ _), (9, .int _ _)] ⟨rfl, rfl, rfl, rfl, rfl, rfl, trivial⟩ (fun e18 => (r_inBlock (r_region' (l_q (qmi rfl rfl) (l_q (q_add rfl rfl (by omega) rfl) (l_q (qai rfl rfl) (l_nil ?_))))))))))))
        exact ih4 (j + 1, n + 1) _ _ ⟨⟨rfl, rfl, rfl, rfl, rfl, (vint_eq (by omega)), trivial⟩, (by omega), (by rw [hn]; first | exact awk_yes hjx (awkB_t1 (by omega)) | exact awk_yes hjx (awkB_t2 (by omega)) | exact awk_no hjx (awkB_f (by omega) (by omega) (by omega))), (by omega), hb1, hsz, hB⟩ (by first | omega | (dsimp only; omega))
       ·
        replace hc17 := dlt hc17
        have g51 := hc17
        refine r_skip (r_inBlock (r_region' (l_q (qmi rfl rfl) (l_q (q_add rfl rfl (by omega) rfl) (l_q (qai rfl rfl) (l_nil (r_forget [(1, .slice _ _ _), (2, .int _ _), (3, .pointer _), (7, .int _ _), (8, .int _ _), (9, .int _ _)] ⟨rfl, rfl, rfl, rfl, rfl, rfl, trivial⟩ (fun e19 => ?_))))))))
        exact ih4 (j + 1, n) _ _ ⟨⟨rfl, rfl, rfl, rfl, rfl, (vint_eq (by omega)), trivial⟩, (by omega), (by rw [hn]; first | exact awk_yes hjx (awkB_t1 (by omega)) | exact awk_yes hjx (awkB_t2 (by omega)) | exact awk_no hjx (awkB_f (by omega) (by omega) (by omega))), (by omega), hb1, hsz, hB⟩ (by first | omega | (dsimp only; omega))
     ·
      replace hc8 := dlt hc8
      have hcL := hc8
      refine r_skip (r_seq (r_region' (l_q (qmi rfl rfl) (l_q (q_lss rfl rfl rfl) (l_q (qmb rfl rfl) (l_part 47 rfl (fun hc20 => ?_) (fun hc20 => ?_)))))))
      ·
       replace hc20 := dt hc20
       have g47 := hc20
       refine l_q (q_skip rfl) (l_q (q_skip rfl) (l_q (q_skip rfl) (l_q (q_pick_t (v := .bool _) rfl rfl rfl) (l_nil (r_cond_t rfl (r_region' (l_q (qmi rfl rfl) (l_q (q_add rfl rfl (by omega) rfl) (l_q (qai rfl rfl) (l_nil (r_forget [(1, .slice _ _ _), (2, .int _ _), (3, .pointer _), (7, .int _ _), (8, .int _ _), (9, .int _ _)] ⟨rfl, rfl, rfl, rfl, rfl, rfl, trivial⟩ (fun e21 => (r_inBlock (r_region' (l_q (qmi rfl rfl) (l_q (q_add rfl rfl (by omega) rfl) (l_q (qai rfl rfl) (l_nil ?_))))))))))))))))))
       exact ih4 (j + 1, n + 1) _ _ ⟨⟨rfl, rfl, rfl, rfl, rfl, (vint_eq (by omega)), trivial⟩, (by omega), (by rw [hn]; first | exact awk_yes hjx (awkB_t1 (by omega)) | exact awk_yes hjx (awkB_t2 (by omega)) | exact awk_no hjx (awkB_f (by omega) (by omega) (by omega))), (by omega), hb1, hsz, hB⟩ (by first | omega | (dsimp only; omega))
      ·
       replace hc20 := dlt hc20
       have g47 := hc20
       refine l_q (qmi rfl rfl) (l_q (qmi rfl rfl) (l_q (q_lss rfl rfl rfl) (l_q (q_pick_f (v := .bool _) rfl rfl rfl) (l_nil (r_cond rfl (fun hc22 => ?_) (fun hc22 => ?_))))))
       ·
        replace hc22 := dt hc22
        have g51 := hc22
        refine r_region' (l_q (qmi rfl rfl) (l_q (q_add rfl rfl (by omega) rfl) (l_q (qai rfl rfl) (l_nil (r_forget [(1, .slice _ _ _), (2, .int _ _), (3, .pointer _), (7, .int _ _), (8, .int _ _), (9, .int _ _)] ⟨rfl, rfl, rfl, rfl, rfl, rfl, trivial⟩ (fun e23 => (r_inBlock (r_region' (l_q (qmi rfl rfl) (l_q (q_add rfl rfl (by omega) rfl) (l_q (qai rfl rfl) (l_nil ?_))))))))))))
        exact ih4 (j + 1, n + 1) _ _ ⟨⟨rfl, rfl, rfl, rfl, rfl, (vint_eq (by omega)), trivial⟩, (by omega), (by rw [hn]; first | exact awk_yes hjx (awkB_t1 (by omega)) | exact awk_yes hjx (awkB_t2 (by omega)) | exact awk_no hjx (awkB_f (by omega) (by omega) (by omega))), (by omega), hb1, hsz, hB⟩ (by first | omega | (dsimp only; omega))
       ·
        replace hc22 := dlt hc22
        have g51 := hc22
        refine r_skip (r_inBlock (r_region' (l_q (qmi rfl rfl) (l_q (q_add rfl rfl (by omega) rfl) (l_q (qai rfl rfl) (l_nil (r_forget [(1, .slice _ _ _), (2, .int _ _), (3, .pointer _), (7, .int _ _), (8, .int _ _), (9, .int _ _)] ⟨rfl, rfl, rfl, rfl, rfl, rfl, trivial⟩ (fun e24 => ?_))))))))
        exact ih4 (j + 1, n) _ _ ⟨⟨rfl, rfl, rfl, rfl, rfl, (vint_eq (by omega)), trivial⟩, (by omega), (by rw [hn]; first | exact awk_yes hjx (awkB_t1 (by omega)) | exact awk_yes hjx (awkB_t2 (by omega)) | exact awk_no hjx (awkB_f (by omega) (by omega) (by omega))), (by omega), hb1, hsz, hB⟩ (by first | omega | (dsimp only; omega))
    ·
     replace hc6 := dlt hc6
     refine r_exit rfl (r_seq (r_region' (l_q (qmi rfl rfl) (l_q (q_fieldAddr (o' := 0) rfl fld33_0 rfl) (l_q (q_load Tryz.isAgg27 rfl ((hb1.has (o := 0) rfl)) rfl) (l_q (qmi rfl rfl) ?_))))))
     obtain ⟨b25, o25, ha25, hh25⟩ := (hpo.rnd.below hB).at1 k ((nd).getD k 0) (getD_some (by omega))
     refine l_q (q_indexAddr1 Tryz.underlying27 Tryz.sizeOf3 rfl ha25 rfl (by omega) rfl) (l_q (q_load Tryz.isAgg3 rfl (hh25) rfl) (l_q (q_lss rfl rfl rfl) (l_nil (r_forget [(1, .slice _ _ _), (2, .int _ _), (3, .pointer _), (7, .int _ _), (60, .bool _)] ⟨rfl, rfl, rfl, rfl, rfl, trivial⟩ (fun e26 => (r_cond rfl (fun hc27 => ?_) (fun hc27 => ?_)))))))
     ·
      replace hc27 := dt hc27
      have g60 := hc27
      refine r_seq (r_region' (l_q (qmi rfl rfl) (l_q (qai rfl rfl) (l_nil (r_ret_ (vs := [.int _ _]) rfl Tryz.func19 rfl (.nil _) ⟨rfl, trivial⟩ ?_)))))
      exact ⟨vint_eq (failX_at hkR hq (decide_eq_true (by rw [hn, awk_full (by omega)] at g60; omega))).symm, Ext.of_below hB⟩
     ·
      replace hc27 := dlt hc27
      have g60 := hc27
      refine r_skip (r_inBlock (r_region' (l_q (qmi rfl rfl) (l_q (q_add rfl rfl (by omega) rfl) (l_q (qai rfl rfl) (l_nil ?_))))))
      exact ih2 (k + 1) _ _ ⟨⟨rfl, rfl, rfl, by first | rfl | exact vint_eq (by omega), trivial⟩, (by omega), (fun j hj => by rcases Nat.lt_succ_iff_lt_or_eq.1 hj with h | h; exact hq j h; subst h; exact decide_eq_false (by rw [hn, awk_full (by omega)] at g60; omega)), hb1, hsz, hB⟩ (by first | omega | (dsimp only; omega))
  ·
   replace hc3 := dlt hc3
   refine r_exit rfl (r_seq (r_region' (l_q (qai rfl rfl) (l_nil (r_ret_ (vs := [.int _ _]) rfl Tryz.func19 rfl (.nil _) ⟨rfl, trivial⟩ ?_)))))
   exact ⟨vint_eq (failX_no (fun j hj => hq j (by omega))).symm, Ext.of_below hB⟩
end Go.Proofs.YtbikicakdkbcgabGreat
