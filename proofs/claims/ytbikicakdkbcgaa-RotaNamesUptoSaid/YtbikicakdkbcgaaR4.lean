/- Contracts. -/
import Derived.Test.YtbikicakdkbcgaaR3
set_option linter.unusedVariables false
set_option linter.unusedSimpArgs false
namespace Go.Proofs.Ytbikicakdkbcgaa
open Go Go.RowKit Go.Gv Go.Fl

theorem RowsI.any {w : World} {l : List SV} (h : RowsI w l) (k : Nat) : Row w (l.getD k sv0).a (l.getD k sv0).xs.length (l.getD k sv0).c 1 ((l.getD k sv0).xs.map vint) := by
  by_cases hk : k < l.length
  · exact h.get hk
  · rw [List.getD_eq_getElem?_getD, List.getElem?_eq_none (by omega)]; exact Row.nil _ _ _ _
def casB (L : List SV) (need : Int) (wt : Nat) (xs : List Int) (k : Nat) : Bool := decide (need ≤ awkN (L.getD k sv0).a.isNone (L.getD k sv0).xs (wt : Int) xs)
def holdsP (C : List (List Int)) (need : Int) (wt : Nat) (xs : List Int) : Bool := C.all (fun l => decide (need ≤ awkN false l (wt : Int) xs)) && decide (need ≤ (xs.length : Int))
theorem casB_yes {L : List SV} {need : Int} {wt : Nat} {xs : List Int} {k : Nat} (h : need ≤ awkN (L.getD k sv0).a.isNone (L.getD k sv0).xs (wt : Int) xs) : casB L need wt xs k = true := decide_eq_true h
theorem casB_no {L : List SV} {need : Int} {wt : Nat} {xs : List Int} {k : Nat} (h : awkN (L.getD k sv0).a.isNone (L.getD k sv0).xs (wt : Int) xs < need) : casB L need wt xs k = false := decide_eq_false (by omega)
theorem row_some {w : World} {a : Option Addr} {n c : Nat} {xs : List Int} (h : Row w a n c 1 (xs.map vint)) (hl : 0 < xs.length) : a.isNone = false := by
  rcases h.2.2 with h0 | ⟨b, o, rfl, _⟩
  · simp at h0; subst h0; simp at hl
  · rfl
theorem awk_nil (ix xs : List Int) (wt : Int) : awkN true ix wt xs = (xs.length : Int) := by
  unfold awkN
  rw [List.filter_eq_self.2 (fun i _ => by unfold awkB; rfl)]
theorem holdsB_eq {w : World} {L : List SV} {need : Int} {wt : Nat} {xs : List Int} (h : ∀ s ∈ L, Row w s.a s.xs.length s.c 1 (s.xs.map vint) ∧ 0 < s.xs.length) : (List.range (L.length + 1)).all (casB L need wt xs) = holdsP (L.map (·.xs)) need wt xs := by
  unfold holdsP
  rw [List.range_succ, List.all_append, List.all_cons, List.all_nil, Bool.and_true]
  have h1 : casB L need wt xs L.length = decide (need ≤ (xs.length : Int)) := by
    unfold casB
    rw [getD_last]
    show decide (need ≤ awkN true [] _ xs) = _
    rw [awk_nil]
  have h2 : (List.range L.length).all (casB L need wt xs) = (L.map (·.xs)).all (fun l => decide (need ≤ awkN false l (wt : Int) xs)) := by
    rw [xs_all, ← range_all L sv0]
    have : ∀ k ∈ List.range L.length, casB L need wt xs k = decide (need ≤ awkN false (L.getD k sv0).xs (wt : Int) xs) := by
      intro k hk
      have hm := h _ (getD_lt (l := L) (d := sv0) (List.mem_range.1 hk))
      unfold casB
      rw [row_some hm.1 hm.2]
    rw [Bool.eq_iff_iff, List.all_eq_true, List.all_eq_true]
    exact ⟨fun hx k hk => by rw [← this k hk]; exact hx k hk, fun hx k hk => by rw [this k hk]; exact hx k hk⟩
  rw [h1, h2]
theorem ill_ok {L : List SV} {n m : Nat} {xs : List Int} {k : Nat} (hLL : ∀ s ∈ L, s.xs.length = n ∧ ∀ i ∈ s.xs, -1 ≤ i ∧ i ≤ (m : Int) - 1) (hon : ∀ i ∈ xs, 0 ≤ i ∧ i ≤ (n : Int) - 1) : (L.getD k sv0).a.isNone = false → ∀ i ∈ xs, 0 ≤ i ∧ i < ((L.getD k sv0).xs.length : Int) := by
  intro h i hi
  by_cases hk : k < L.length
  · have := (hLL _ (getD_lt (d := sv0) hk)).1
    have := hon i hi
    omega
  · rw [List.getD_eq_getElem?_getD, List.getElem?_eq_none (by omega)] at h; cases h
theorem ill_all {L R : List SV} {n m : Nat} {k : Nat} (hLL : ∀ s ∈ L, s.xs.length = n ∧ ∀ i ∈ s.xs, -1 ≤ i ∧ i ≤ (m : Int) - 1) (hR : ∀ s ∈ R, s.xs.length ≤ 8 ∧ ∀ i ∈ s.xs, 0 ≤ i ∧ i ≤ (n : Int) - 1) : (L.getD k sv0).a.isNone = false → ∀ s ∈ R, ∀ i ∈ s.xs, 0 ≤ i ∧ i < ((L.getD k sv0).xs.length : Int) :=
  fun h s hs => ill_ok hLL (hR s hs).2 h
theorem plan_ok {nd : List Int} {pl : List PV} {L R : List SV} (h : planP (po nd pl L) (R.map (·.xs)) = 0) : faultP (po nd pl L) = 0 ∧ R.length = nd.length ∧ ∀ s ∈ R, risB s.xs (pl.length : Int) = true := by
  unfold planP at h
  split at h
  · rename_i h1; exact absurd h h1
  · rename_i h1
    split at h
    · rename_i h2
      rw [xs_all, Bool.and_eq_true, decide_eq_true_eq, List.all_eq_true] at h2
      simp only [po, List.length_map] at h2
      exact ⟨by simpa using h1, by omega, h2.2⟩
    · cases h
theorem ris_get {xs : List Int} {be : Int} (h : risB xs be = true) : ∀ k, k < xs.length → (k : Int) ≤ xs.getD k 0 ∧ xs.getD k 0 ≤ be - 1 := by
  have hk : ∀ k, k < xs.length → lastAt xs k + 1 ≤ xs.getD k 0 ∧ xs.getD k 0 ≤ be - 1 := fun k hk => by
    have := List.all_eq_true.1 h k (List.mem_range.2 hk)
    simpa [rAt] using this
  intro k
  induction k with
  | zero => intro h0; have := hk 0 h0; simp only [lastAt] at this; omega
  | succ k ih =>
    intro h1
    have h2 := ih (by omega)
    have h3 := hk (k + 1) h1
    simp only [lastAt] at h3
    omega
theorem ris_on {xs : List Int} {n : Nat} (hn : n ≤ 4) (h : risB xs (n : Int) = true) : xs.length ≤ 8 ∧ ∀ i ∈ xs, 0 ≤ i ∧ i ≤ (n : Int) - 1 := by
  have hg := ris_get h
  refine ⟨?_, fun i hi => ?_⟩
  · by_cases h0 : xs.length = 0
    · omega
    · have := hg (xs.length - 1) (by omega); omega
  · obtain ⟨k, hk, rfl⟩ := List.mem_iff_getElem.1 hi
    have := hg k hk
    rw [List.getD_eq_getElem?_getD, List.getElem?_eq_getElem hk] at this
    simp only [Option.getD_some] at this
    omega
def rulesR (nd : List Int) (pl : List PV) (L : List SV) (R : List (List Int)) : Bool × Int := if planP (po nd pl L) R = 0 then (rulL pl 0 stood0 R, 0) else (false, planP (po nd pl L) R)
theorem rul_e {nd : List Int} {pl : List PV} {L R : List SV} (h : ¬ planP (po nd pl L) (R.map (·.xs)) = 0) : (Value.tuple ⟨[.bool false, vint (planP (po nd pl L) (R.map (·.xs)))]⟩ : Value) = .tuple ⟨[.bool (rulesR nd pl L (R.map (·.xs))).1, vint (rulesR nd pl L (R.map (·.xs))).2]⟩ := by unfold rulesR; rw [if_neg h]
theorem rul_k {nd : List Int} {pl : List PV} {L R : List SV} (h : planP (po nd pl L) (R.map (·.xs)) = 0) : (Value.tuple ⟨[.bool (rulL pl 0 stood0 (R.map (·.xs))), vint 0]⟩ : Value) = .tuple ⟨[.bool (rulesR nd pl L (R.map (·.xs))).1, vint (rulesR nd pl L (R.map (·.xs))).2]⟩ := by unfold rulesR; rw [if_pos h]
def failC (nd : List Int) (R : List SV) (s : SV) : Int := idxI (fun k => decide (awkN s.a.isNone s.xs (k : Int) (R.getD k sv0).xs < nd.getD k 0)) R.length
def failV (nd : List Int) (R L : List SV) (k : Nat) : List Int := (List.range k).map (fun c => failC nd R (L.getD c sv0)) ++ List.replicate (L.length + 1 - k) 0
theorem failV_len {nd : List Int} {R L : List SV} {k : Nat} (h : k ≤ L.length + 1) : (failV nd R L k).length = L.length + 1 := by unfold failV; simp; omega
theorem failV_0 {nd : List Int} {R L : List SV} : List.replicate (L.length + 1) 0 = failV nd R L 0 := by unfold failV; simp
theorem failV_step {nd : List Int} {R L : List SV} {k : Nat} (h : k ≤ L.length) : (failV nd R L k).set (0 + k) (failC nd R (L.getD k sv0)) = failV nd R L (k + 1) := by
  unfold failV
  rw [Nat.zero_add, List.set_append_right _ _ (by simp), List.length_map, List.length_range, Nat.sub_self, List.range_succ, List.map_append, List.append_assoc]
  obtain ⟨m, hm⟩ : ∃ m, L.length + 1 - k = m + 1 := ⟨L.length - k, by omega⟩
  rw [hm, List.replicate_succ, show L.length + 1 - (k + 1) = m by omega]
  rfl
def failsR (nd : List Int) (pl : List PV) (L R : List SV) : Int × List Int := if planP (po nd pl L) (R.map (·.xs)) = 0 then (0, failV nd R L (L.length + 1)) else (planP (po nd pl L) (R.map (·.xs)), [])
theorem failsR_e {nd : List Int} {pl : List PV} {L R : List SV} (h : ¬ planP (po nd pl L) (R.map (·.xs)) = 0) : failsR nd pl L R = (planP (po nd pl L) (R.map (·.xs)), []) := if_neg h
theorem failsR_k {nd : List Int} {pl : List PV} {L R : List SV} (h : planP (po nd pl L) (R.map (·.xs)) = 0) : failsR nd pl L R = (0, failV nd R L (L.length + 1)) := if_pos h


theorem holds_ret (na : Option Addr) (nc : Nat) (nd : List Int) (pa : Option Addr) (pc : Nat) (pl : List PV) (ca : Option Addr) (cc : Nat) (L : List SV) (xa : Option Addr) (xc : Nat) (xs : List Int) (wt : Nat) (w : World) (hpo : PoAt w na nc nd pa pc pl ca cc L) (hok : faultP (po nd pl L) = 0) (hx : Row w xa xs.length xc 1 (xs.map vint)) (hxn : xs.length ≤ 2097152) (hon : ∀ i ∈ xs, 0 ≤ i ∧ i ≤ (pl.length : Int) - 1) (hwt : wt < nd.length) : Ret Try.prog 31 [.agg ⟨[.slice na nd.length nc, .slice pa pl.length pc, .slice ca L.length cc]⟩, .slice xa xs.length xc, vint (wt : Int)] w (fun v w' => v = .bool (holdsP (L.map (·.xs)) (nd.getD wt 0) wt xs) ∧ Ext w w') := by
 obtain ⟨⟨hn1, hn5⟩, ⟨hp1, hp4⟩, hL4, hnn, hpp, hLL⟩ := po_ok hok
 have hB := Below.refl w.heap.size w
 have hsz : w.heap.size ≤ w.heap.size := Nat.le_refl _
 refine ret_of_runs (args := [_, _, _]) Try.func31 rfl (Nat.le_of_ble_eq_true rfl) (by kernel_rfl) (r_seq (r_region' (l_o (o_box rfl rfl rfl ?_))))
 intro b1 w1 hzl1 hzr1 _ hb1 hE1
 have hbs_b1 : w.heap.size ≤ b1 := Nat.le_trans hsz hzl1
 replace hB := below_ext hB hE1 hsz
 replace hsz := Nat.le_trans hsz hE1.size
 refine l_o (o_box rfl rfl rfl ?_)
 intro b2 w2 hzl2 hzr2 _ hb2 hE2
 have hne_b1_b2 : b1 ≠ b2 := by have := hb1.lt; omega
 have hbs_b2 : w.heap.size ≤ b2 := Nat.le_trans hsz hzl2
 replace hB := below_ext hB hE2 hsz
 replace hb1 := hb1.ext hE2
 replace hsz := Nat.le_trans hsz hE2.size
 refine l_o (o_box rfl rfl rfl ?_)
 intro b3 w3 hzl3 hzr3 _ hb3 hE3
 have hne_b1_b3 : b1 ≠ b3 := by have := hb1.lt; omega
 have hne_b2_b3 : b2 ≠ b3 := by have := hb2.lt; omega
 have hbs_b3 : w.heap.size ≤ b3 := Nat.le_trans hsz hzl3
 replace hB := below_ext hB hE3 hsz
 replace hb1 := hb1.ext hE3
 replace hb2 := hb2.ext hE3
 replace hsz := Nat.le_trans hsz hE3.size
 refine l_o (o_alloc Try.zeroValue4 rfl rfl ?_)
 intro b4 w4 hzl4 hzr4 _ hb4 hE4
 have hne_b1_b4 : b1 ≠ b4 := by have := hb1.lt; omega
 have hne_b2_b4 : b2 ≠ b4 := by have := hb2.lt; omega
 have hne_b3_b4 : b3 ≠ b4 := by have := hb3.lt; omega
 have hbs_b4 : w.heap.size ≤ b4 := Nat.le_trans hsz hzl4
 replace hB := below_ext hB hE4 hsz
 replace hb1 := hb1.ext hE4
 replace hb2 := hb2.ext hE4
 replace hb3 := hb3.ext hE4
 replace hsz := Nat.le_trans hsz hE4.size
 refine l_nil (r_seq (r_seq (r_region' (l_q (q_load_agg (n := 3) Try.isAgg29 Try.sizeOf29 rfl ((hb1.cells' (cs' := [_, _, _]) 0 3 rfl)) rfl rfl) (l_o (o_call Try.call53 rfl (cases_ret na nc nd pa pc pl ca cc L _) rfl ?_))))))
 rintro _ w5 ⟨bx5, rfl, hbx5, hx5, hE5⟩
 have hne_b1_bx5 : b1 ≠ bx5 := by have := hb1.lt; omega
 have hne_b2_bx5 : b2 ≠ bx5 := by have := hb2.lt; omega
 have hne_b3_bx5 : b3 ≠ bx5 := by have := hb3.lt; omega
 have hne_b4_bx5 : b4 ≠ bx5 := by have := hb4.lt; omega
 have hbs_bx5 : w.heap.size ≤ bx5 := Nat.le_trans hsz hbx5
 replace hB := below_ext hB hE5 hsz
 replace hb1 := hb1.ext hE5
 replace hb2 := hb2.ext hE5
 replace hb3 := hb3.ext hE5
 replace hb4 := hb4.ext hE5
 replace hsz := Nat.le_trans hsz hE5.size
 refine l_nil (r_block (r_rangeFunc' (fst := []) (cap := [_]) rfl rfl Try.call72 ?_))
 intro l db wl Lp hLp hLk hEl hll hldb hlne hdbN hlN hdb hlp
 have hlt_b1 := hb1.lt
 have hlt_b2 := hb2.lt
 have hlt_b3 := hb3.lt
 have hlt_b4 := hb4.lt
 have hlt_bx5 := hx5.lt
 have hszl := hEl.size
 replace hB := below_ext hB hEl hsz
 replace hb1 := hb1.ext hEl
 replace hb2 := hb2.ext hEl
 replace hb3 := hb3.ext hEl
 replace hb4 := hb4.ext hEl
 replace hx5 := hx5.ext hEl
 replace hsz := Nat.le_trans hsz hEl.size
 have hbs_l : w.heap.size ≤ l := by omega
 have hbs_db : w.heap.size ≤ db := by omega
 have hJ0 : (fun (k : Nat) wq => (Blk wq b1 [.slice na nd.length nc, .slice pa pl.length pc, .slice ca L.length cc]) ∧ (Blk wq b2 [.slice xa xs.length xc]) ∧ (Blk wq b3 [vint (wt : Int)]) ∧ (Blk wq b4 [.bool false]) ∧ (Blk wq bx5 [.slice na nd.length nc, .slice pa pl.length pc, .slice ca L.length cc]) ∧ (Lp wq .ready none) ∧ (wq.heap[db]? = some (.deferred (some []))) ∧ (Below w.heap.size w wq) ∧ (∀ j, j < k → casB L (nd.getD wt 0) wt xs j = true)) 0 wl := ⟨hb1, hb2, hb3, hb4, hx5, hlp, hdb, hB, (fun j hj => absurd hj (Nat.not_lt_zero _))⟩
 refine (cases1_ret l bx5 na nc nd pa pc pl ca cc L (fun (k : Nat) wq => (Blk wq b1 [.slice na nd.length nc, .slice pa pl.length pc, .slice ca L.length cc]) ∧ (Blk wq b2 [.slice xa xs.length xc]) ∧ (Blk wq b3 [vint (wt : Int)]) ∧ (Blk wq b4 [.bool false]) ∧ (Blk wq bx5 [.slice na nd.length nc, .slice pa pl.length pc, .slice ca L.length cc]) ∧ (Lp wq .ready none) ∧ (wq.heap[db]? = some (.deferred (some []))) ∧ (Below w.heap.size w wq) ∧ (∀ j, j < k → casB L (nd.getD wt 0) wt xs j = true)) (fun wq => ∃ k, (Lp wq .done (some (.ret))) ∧ (wq.heap[db]? = some (.deferred (some []))) ∧ (Below w.heap.size w wq) ∧ (Blk wq b4 [.bool false]) ∧ (k ≤ L.length ∧ casB L (nd.getD wt 0) wt xs k = false)) wl (by omega) (by omega) hJ0 (fun k w1 hJ => by
     obtain ⟨hb1, hb2, hb3, hb4, hx5, hlp, hdb, hB, hno⟩ := hJ
     exact ⟨hx5, (hpo.below hB).rC, (hpo.below hB).rCr⟩) ?_).mono ?_
 · intro k w1 hk hJ hN
   obtain ⟨hb1, hb2, hb3, hb4, hx5, hlp, hdb, hB, hno⟩ := hJ
   refine yieldAt_of ((hLp _ _ _).1 hlp) rfl (by rfl) (by kernel_rfl) ?_
   have hsz : w.heap.size ≤ w1.heap.size := by omega
   have hszr : w1.heap.size ≤ w1.heap.size := Nat.le_refl _
   have hil := ill_ok (k := k) hLL hon
   have hszk : w1.heap.size ≤ w1.heap.size := Nat.le_refl _
   refine r_forget [(3, ptr b1 0), (4, ptr b2 0), (5, ptr b3 0), (6, ptr b4 0), (12, .slice ((L.getD k sv0).a) ((L.getD k sv0).xs.length) ((L.getD k sv0).c))] ⟨rfl, rfl, rfl, rfl, rfl, trivial⟩ (fun e6 => (r_region' (l_q (qas rfl rfl) (l_nil (r_begin rfl ((hLp _ _ _).1 hlp) ?_)))))
   intro wb7 hzb7 hgb7 hl7
   replace hB := below_upd hB hgb7 hsz hbs_l
   replace hsz : w.heap.size ≤ wb7.heap.size := by rw [hzb7]; exact hsz
   replace hb1 := hb1.upd hgb7 (by omega)
   replace hb2 := hb2.upd hgb7 (by omega)
   replace hb3 := hb3.upd hgb7 (by omega)
   replace hb4 := hb4.upd hgb7 (by omega)
   replace hx5 := hx5.upd hgb7 (by omega)
   replace hdb := (hgb7.block db (heap_lt hdb) (by simp; omega)).trans hdb
   replace hszr := Nat.le_trans hszr hgb7.size
   have hlp := (hLp _ _ _).2 hl7
   refine r_block (r_seq (r_draw ext_refl' ext_trans' [0, 1, 2, 4, 5, 6, 7, 8, 3, 9] [3] 9 (by kernel_rfl) (by kernel_rfl) ?_))
   intro w8 _ hE8
   replace hB := below_ext hB hE8 hsz
   replace hb1 := hb1.ext hE8
   replace hb2 := hb2.ext hE8
   replace hb3 := hb3.ext hE8
   replace hb4 := hb4.ext hE8
   replace hx5 := hx5.ext hE8
   replace hdb := (hE8.block db (heap_lt hdb) (by simp)).trans hdb
   replace hszr := Nat.le_trans hszr hE8.size
   replace hlp := hLk _ _ _ _ hlp (hE8.block l (((hLp _ _ _).1 hlp).lt) (by simp))
   replace hsz := Nat.le_trans hsz hE8.size
   refine m_q rfl rfl (fun w' hC' => q_load Try.isAgg26 rfl (((hb2.has (o := 0) rfl).ext hC')) rfl) (m_q rfl rfl (fun w' hC' => qms rfl rfl) (m_q rfl rfl (fun w' hC' => q_load Try.isAgg3 rfl (((hb3.has (o := 0) rfl).ext hC')) rfl) (m_q rfl rfl (fun w' hC' => q_fieldAddr (o' := 0) rfl fld29_0 rfl) (m_q rfl rfl (fun w' hC' => q_load Try.isAgg26 rfl (((hb1.has (o := 0) rfl).ext hC')) rfl) (m_q rfl rfl (fun w' hC' => q_load Try.isAgg3 rfl (((hb3.has (o := 0) rfl).ext hC')) rfl) ?_)))))
   obtain ⟨b9, o9, ha9, hh9⟩ := (hpo.rnd.below hB).at1 wt ((nd).getD wt 0) (getD_some (by omega))
   refine m_q rfl rfl (fun w' hC' => q_indexAddr1 Try.underlying26 Try.sizeOf3 rfl ha9 rfl (by omega) rfl) (m_q rfl rfl (fun w' hC' => q_load Try.isAgg3 rfl ((hh9.ext hC')) rfl) (m_o rfl rfl (o_call Try.call54 rfl (awake10_ret _ _ xs _ _ ((L.getD k sv0).xs) (wt : Int) _ (hx.below hB) hxn ((RowsI.any hpo.rCr k).below hB) hil) rfl ?_)))
   rintro _ w10 ⟨rfl, hE10⟩
   refine ⟨hE10, ?_⟩
   replace hB := below_ext hB hE10 hsz
   replace hb1 := hb1.ext hE10
   replace hb2 := hb2.ext hE10
   replace hb3 := hb3.ext hE10
   replace hb4 := hb4.ext hE10
   replace hx5 := hx5.ext hE10
   replace hdb := (hE10.block db (heap_lt hdb) (by simp)).trans hdb
   replace hszr := Nat.le_trans hszr hE10.size
   replace hlp := hLk _ _ _ _ hlp (hE10.block l (((hLp _ _ _).1 hlp).lt) (by simp))
   replace hsz := Nat.le_trans hsz hE10.size
   refine m_q rfl rfl (fun w' hC' => q_lss rfl rfl rfl) (m_nil (r_forget [(6, .pointer _), (22, .bool _)] ⟨rfl, rfl, trivial⟩ (fun e11 => (r_cond rfl (fun hc12 => ?_) (fun hc12 => ?_)))))
   ·
    replace hc12 := dt hc12
    have hlt := hc12
    refine r_seq (r_region' (l_o (o_store (vs := [.bool false]) (cs' := [.bool false]) Try.sizeOf4 rfl rfl rfl rfl hb4 (Nat.le_of_ble_eq_true rfl) rfl rfl ?_)))
    intro w13 hz13 hb4 hG13
    replace hB := below_upd hB hG13 hsz (by omega)
    replace hsz : w.heap.size ≤ w13.heap.size := by rw [hz13]; exact hsz
    replace hb1 := hb1.upd hG13 (by omega)
    replace hb2 := hb2.upd hG13 (by omega)
    replace hb3 := hb3.upd hG13 (by omega)
    replace hx5 := hx5.upd hG13 (by omega)
    replace hdb := (hG13.block db (heap_lt hdb) (by simp; omega)).trans hdb
    replace hszr := Nat.le_trans hszr hG13.size
    replace hlp := hLk _ _ _ _ hlp (hG13.block l (((hLp _ _ _).1 hlp).lt) (by simp; omega))
    refine l_nil (r_round_ret rfl ((hLp _ _ _).1 hlp) ?_)
    intro we14 hze14 hge14 hl14
    replace hB := below_upd hB hge14 hsz hbs_l
    replace hsz : w.heap.size ≤ we14.heap.size := by rw [hze14]; exact hsz
    replace hb1 := hb1.upd hge14 (by omega)
    replace hb2 := hb2.upd hge14 (by omega)
    replace hb3 := hb3.upd hge14 (by omega)
    replace hb4 := hb4.upd hge14 (by omega)
    replace hx5 := hx5.upd hge14 (by omega)
    replace hdb := (hge14.block db (heap_lt hdb) (by simp; omega)).trans hdb
    replace hszr := Nat.le_trans hszr hge14.size
    have hlp := (hLp _ _ _).2 hl14
    exact ⟨false, rfl, (fun h => by cases h), fun _ => ⟨k, hlp, hdb, hB, hb4, ⟨hk, casB_no hlt⟩⟩, hszr⟩
   ·
    replace hc12 := dlt hc12
    have hge := hc12
    refine r_skip (r_inBlock (r_round_end rfl ((hLp _ _ _).1 hlp) ?_))
    intro we15 hze15 hge15 hl15
    replace hB := below_upd hB hge15 hsz hbs_l
    replace hsz : w.heap.size ≤ we15.heap.size := by rw [hze15]; exact hsz
    replace hb1 := hb1.upd hge15 (by omega)
    replace hb2 := hb2.upd hge15 (by omega)
    replace hb3 := hb3.upd hge15 (by omega)
    replace hb4 := hb4.upd hge15 (by omega)
    replace hx5 := hx5.upd hge15 (by omega)
    replace hdb := (hge15.block db (heap_lt hdb) (by simp; omega)).trans hdb
    replace hszr := Nat.le_trans hszr hge15.size
    have hlp := (hLp _ _ _).2 hl15
    exact ⟨true, rfl, fun _ => ⟨hb1, hb2, hb3, hb4, hx5, hlp, hdb, hB, (fun j hj => by rcases Nat.lt_succ_iff_lt_or_eq.1 hj with h | h; exact hno j h; subst h; exact casB_yes hge)⟩, (fun h => by cases h), hszr⟩
 · rintro _ w2 (hJ | hJ)
   ·
    obtain ⟨hb1, hb2, hb3, hb4, hx5, hlp, hdb, hB, hno⟩ := hJ
    refine ⟨.ready, none, (by decide), hlp, rfl, ?_⟩
    intro w3 hz3 hg3
    have hsz2 : w.heap.size ≤ w2.heap.size := hB.size
    replace hB := below_upd hB hg3 hsz2 hbs_l
    have hsz : w.heap.size ≤ w3.heap.size := by rw [hz3]; exact hsz2
    replace hb4 := hb4.upd hg3 (by omega)
    replace hdb := (hg3.block db (heap_lt hdb) (by simp; omega)).trans hdb
    refine r_inBlock (r_seq (r_region' (l_o (o_store (vs := [.bool true]) (cs' := [.bool true]) Try.sizeOf4 rfl rfl rfl rfl hb4 (Nat.le_of_ble_eq_true rfl) rfl rfl ?_))))
    intro w16 hz16 hb4 hG16
    replace hB := below_upd hB hG16 hsz (by omega)
    replace hsz : w.heap.size ≤ w16.heap.size := by rw [hz16]; exact hsz
    replace hdb := (hG16.block db (heap_lt hdb) (by simp; omega)).trans hdb
    refine l_nil ?_
    obtain ⟨wf17, hUf, hzf17, hGf17⟩ := unw_one hdb
    replace hB := below_upd hB hGf17 hsz (by omega)
    replace hsz : w.heap.size ≤ wf17.heap.size := by rw [hzf17]; exact hsz
    replace hb4 := hb4.upd hGf17 (by omega)
    refine r_ret_ (vs := [.bool _]) rfl Try.func31 rfl (hUf) ⟨⟨_, _, rfl, run_loadVar1 Try.isAgg4 (hb4.has (o := 0) rfl)⟩, trivial⟩ ?_
    exact ⟨vbool_eq (by symm; rw [← holdsB_eq (fun s hs => ⟨hpo.rCr s hs, by have := (hLL s hs).1; omega⟩)]; exact List.all_eq_true.2 (fun j hj => hno j (List.mem_range.1 hj))), Ext.of_below hB⟩
   ·
    obtain ⟨k, hlp, hdb, hB, hb4, hbad⟩ := hJ
    refine ⟨.done, some (.ret), (by decide), hlp, rfl, ?_⟩
    intro w3 hz3 hg3
    have hsz2 : w.heap.size ≤ w2.heap.size := hB.size
    replace hB := below_upd hB hg3 hsz2 hbs_l
    have hsz : w.heap.size ≤ w3.heap.size := by rw [hz3]; exact hsz2
    replace hb4 := hb4.upd hg3 (by omega)
    replace hdb := (hg3.block db (heap_lt hdb) (by simp; omega)).trans hdb
    obtain ⟨wf18, hUf, hzf18, hGf18⟩ := unw_one hdb
    replace hB := below_upd hB hGf18 hsz (by omega)
    replace hsz : w.heap.size ≤ wf18.heap.size := by rw [hzf18]; exact hsz
    replace hb4 := hb4.upd hGf18 (by omega)
    refine r_ret_ (vs := [.bool _]) rfl Try.func31 rfl (hUf) ⟨⟨_, _, rfl, run_loadVar1 Try.isAgg4 (hb4.has (o := 0) rfl)⟩, trivial⟩ ?_
    exact ⟨vbool_eq (by symm; rw [← holdsB_eq (fun s hs => ⟨hpo.rCr s hs, by have := (hLL s hs).1; omega⟩)]; exact List.all_eq_false.2 ⟨k, List.mem_range.2 (by omega), by rw [hbad.2]; decide⟩), Ext.of_below hB⟩
theorem fails_ret (na : Option Addr) (nc : Nat) (nd : List Int) (pa : Option Addr) (pc : Nat) (pl : List PV) (ca : Option Addr) (cc : Nat) (L : List SV) (ra : Option Addr) (rc : Nat) (R : List SV) (ia : Option Addr) (ic : Nat) (ix : List Int) (w : World) (hpo : PoAt w na nc nd pa pc pl ca cc L) (hR : Row w ra R.length rc 1 (R.map SV.enc)) (hRr : RowsI w R) (hRl : R.length ≤ nd.length) (hnl : nd.length ≤ 2097152) (hRx : ∀ s ∈ R, s.xs.length ≤ 2097152) (hi : Row w ia ix.length ic 1 (ix.map vint)) (hil : ia.isNone = false → ∀ s ∈ R, ∀ i ∈ s.xs, 0 ≤ i ∧ i < (ix.length : Int)) : Ret Try.prog 66 [.agg ⟨[.slice na nd.length nc, .slice pa pl.length pc, .slice ca L.length cc]⟩, .slice ra R.length rc, .slice ia ix.length ic] w (fun v w' => v = vint (idxI (fun (k : Nat) => decide (awkN ia.isNone ix (k : Int) (R.getD k sv0).xs < nd.getD k 0)) R.length) ∧ Ext w w') := by
 have hB := Below.refl w.heap.size w
 have hsz : w.heap.size ≤ w.heap.size := Nat.le_refl _
 refine ret_of_runs (args := [_, _, _]) Try.func66 rfl (Nat.le_of_ble_eq_true rfl) (by kernel_rfl) (r_seq (r_region' (l_o (o_box rfl rfl rfl ?_))))
 intro b1 w1 hzl1 hzr1 _ hb1 hE1
 have hbs_b1 : w.heap.size ≤ b1 := Nat.le_trans hsz hzl1
 replace hB := below_ext hB hE1 hsz
 replace hsz := Nat.le_trans hsz hE1.size
 refine l_q (qai rfl rfl) (l_nil (r_seq (r_seq (r_region' (l_q (qms rfl rfl) (l_q (q_len rfl Try.underlying22 rfl rfl) (l_q (qmi rfl rfl) (l_nil (r_block (r_rounds (α := Nat) (fun k e wl => Knows e [(2, .slice ia ix.length ic), (3, ptr b1 0), (9, .slice ra R.length rc), (10, vint (R.length : Int)), (11, vint (k : Int))] ∧ (k ≤ R.length) ∧ (∀ i, i < k → (fun (k : Nat) => decide (awkN ia.isNone ix (k : Int) (R.getD k sv0).xs < nd.getD k 0)) i = false) ∧ (Blk wl b1 [.slice na nd.length nc, .slice pa pl.length pc, .slice ca L.length cc]) ∧ (w.heap.size ≤ wl.heap.size) ∧ (Below w.heap.size w wl)) (fun k => R.length - k) 0 ?_ ?_))))))))))
 ·
  exact ⟨⟨rfl, rfl, rfl, rfl, rfl, trivial⟩, (Nat.zero_le _), (fun i hi => absurd hi (Nat.not_lt_zero _)), hb1, hsz, hB⟩
 ·
  rintro k el2 wl2 ⟨hkn, hk, hno, hb1, hsz, hB⟩ ih2
  obtain ⟨e2, rfl⟩ := knows_env hkn
  refine r_seq (r_region' (l_q (q_lss rfl rfl rfl) (l_nil (r_seq (r_cond rfl (fun hc3 => ?_) (fun hc3 => ?_))))))
  ·
   replace hc3 := dt hc3
   have hkR : k < R.length := by omega
   refine r_skip (r_seq (r_block (r_seq (r_region' (l_q (qmi rfl rfl) ?_)))))
   obtain ⟨b4, o4, ha4, hh4⟩ := (hR.below hB).at1 k ((R).getD k sv0) (getD_some (by omega))
   refine l_q (q_indexAddr1 Try.underlying22 Try.sizeOf26 rfl ha4 rfl (by omega) rfl) (l_q (q_load Try.isAgg26 rfl (hh4) rfl) (l_q (qai rfl rfl) (l_q (qas rfl rfl) (l_nil (r_seq (r_draw ext_refl' ext_trans' [0, 1, 2, 4, 5, 6, 7, 8, 3, 9] [3] 9 (by kernel_rfl) (by kernel_rfl) ?_))))))
   intro w5 _ hE5
   replace hB := below_ext hB hE5 hsz
   replace hb1 := hb1.ext hE5
   replace hsz := Nat.le_trans hsz hE5.size
   refine m_q rfl rfl (fun w' hC' => qms rfl rfl) (m_q rfl rfl (fun w' hC' => qms rfl rfl) (m_q rfl rfl (fun w' hC' => qmi rfl rfl) (m_q rfl rfl (fun w' hC' => q_fieldAddr (o' := 0) rfl fld29_0 rfl) (m_q rfl rfl (fun w' hC' => q_load Try.isAgg26 rfl (((hb1.has (o := 0) rfl).ext hC')) rfl) (m_q rfl rfl (fun w' hC' => qmi rfl rfl) ?_)))))
   obtain ⟨b6, o6, ha6, hh6⟩ := (hpo.rnd.below hB).at1 k ((nd).getD k 0) (getD_some (by omega))
   refine m_q rfl rfl (fun w' hC' => q_indexAddr1 Try.underlying26 Try.sizeOf3 rfl ha6 rfl (by omega) rfl) (m_q rfl rfl (fun w' hC' => q_load Try.isAgg3 rfl ((hh6.ext hC')) rfl) (m_o rfl rfl (o_call Try.call54 rfl (awake10_ret _ _ (((R).getD k sv0).xs) _ _ ix (k : Int) _ ((RowsI.get (hRr) (i := k) (by omega)).below hB) (hRx _ (getD_lt hkR)) (hi.below hB) (fun h => hil h _ (getD_lt hkR))) rfl ?_)))
   rintro _ w7 ⟨rfl, hE7⟩
   refine ⟨hE7, ?_⟩
   replace hB := below_ext hB hE7 hsz
   replace hb1 := hb1.ext hE7
   replace hsz := Nat.le_trans hsz hE7.size
   refine m_q rfl rfl (fun w' hC' => q_lss rfl rfl rfl) (m_nil (r_forget [(2, .slice _ _ _), (3, .pointer _), (7, .int _ _), (9, .slice _ _ _), (10, .int _ _), (11, .int _ _), (25, .bool _)] ⟨rfl, rfl, rfl, rfl, rfl, rfl, rfl, trivial⟩ (fun e8 => (r_cond rfl (fun hc9 => ?_) (fun hc9 => ?_)))))
   ·
    replace hc9 := dt hc9
    have g25 := hc9
    refine r_seq (r_region' (l_q (qmi rfl rfl) (l_q (qai rfl rfl) (l_nil (r_ret_ (vs := [.int _ _]) rfl Try.func66 rfl (.nil _) ⟨rfl, trivial⟩ ?_)))))
    exact ⟨vint_eq (idxI_found (p := (fun (k : Nat) => decide (awkN ia.isNone ix (k : Int) (R.getD k sv0).xs < nd.getD k 0))) (by omega) (decide_eq_true g25) hno).symm, Ext.of_below hB⟩
   ·
    replace hc9 := dlt hc9
    have g25 := hc9
    refine r_skip (r_inBlock (r_region' (l_q (q_add rfl rfl (by omega) rfl) (l_q (qmi rfl rfl) (l_nil ?_)))))
    exact ih2 (k + 1) _ _ ⟨⟨rfl, rfl, rfl, rfl, (vint_eq (by omega)), trivial⟩, (by omega), (fun i hi => by rcases Nat.lt_succ_iff_lt_or_eq.1 hi with h | h; exact hno i h; subst h; exact decide_eq_false (by omega)), hb1, hsz, hB⟩ (by first | omega | (dsimp only; omega))
  ·
   replace hc3 := dlt hc3
   refine r_exit rfl (r_seq (r_region' (l_q (qai rfl rfl) (l_nil (r_ret_ (vs := [.int _ _]) rfl Try.func66 rfl (.nil _) ⟨rfl, trivial⟩ ?_)))))
   exact ⟨vint_eq (idxI_none (p := (fun (k : Nat) => decide (awkN ia.isNone ix (k : Int) (R.getD k sv0).xs < nd.getD k 0))) (fun i hi => hno i (by omega))).symm, Ext.of_below hB⟩
theorem Rules_ret (na : Option Addr) (nc : Nat) (nd : List Int) (pa : Option Addr) (pc : Nat) (pl : List PV) (ca : Option Addr) (cc : Nat) (L : List SV) (ra : Option Addr) (rc : Nat) (R : List SV) (w : World) (hpo : PoAt w na nc nd pa pc pl ca cc L) (hnl : nd.length ≤ 2097152) (hpll : pl.length ≤ 2097152) (hLl : L.length ≤ 2097152) (hLs : ∀ s ∈ L, s.xs.length ≤ 2097152) (hR : Row w ra R.length rc 1 (R.map SV.enc)) (hRr : RowsI w R) (hRl : R.length ≤ 2097152) (hRx : ∀ s ∈ R, s.xs.length ≤ 2097152) : Ret Try.prog 8 [.agg ⟨[.slice na nd.length nc, .slice pa pl.length pc, .slice ca L.length cc]⟩, .slice ra R.length rc] w (fun v w' => v = .tuple ⟨[.bool ((rulesR nd pl L (R.map (·.xs))).1), vint ((rulesR nd pl L (R.map (·.xs))).2)]⟩ ∧ Ext w w') := by
 have hB := Below.refl w.heap.size w
 have hsz : w.heap.size ≤ w.heap.size := Nat.le_refl _
 refine ret_of_runs (args := [_, _]) Try.func8 rfl (Nat.le_of_ble_eq_true rfl) (by kernel_rfl) (r_seq (r_region' (l_o (o_box rfl rfl rfl ?_))))
 intro b1 w1 hzl1 hzr1 _ hb1 hE1
 have hbs_b1 : w.heap.size ≤ b1 := Nat.le_trans hsz hzl1
 replace hB := below_ext hB hE1 hsz
 replace hsz := Nat.le_trans hsz hE1.size
 refine l_q (qab rfl rfl) (l_q (qai rfl rfl) (l_nil (r_seq (r_seq (r_region' (l_q (q_load_agg (n := 3) Try.isAgg29 Try.sizeOf29 rfl ((hb1.cells' (cs' := [_, _, _]) 0 3 rfl)) rfl rfl) (l_q (qms rfl rfl) (l_o (o_call Try.call27 rfl (rcheck_ret na nc nd pa pc pl ca cc L _ _ R _ (hpo.below hB) hnl hpll hLl hLs (hR.below hB) (hRr.below hB) hRl hRx) rfl ?_)))))))))
 rintro _ w2 ⟨rfl, hE2⟩
 replace hB := below_ext hB hE2 hsz
 replace hb1 := hb1.ext hE2
 replace hsz := Nat.le_trans hsz hE2.size
 refine l_q (qai rfl rfl) (l_nil (r_seq (r_region' (l_q (qmi rfl rfl) (l_q (q_neq rfl rfl rfl) (l_nil (r_cond rfl (fun hc3 => ?_) (fun hc3 => ?_))))))))
 ·
  replace hc3 := df (nt hc3)
  have hp := hc3
  refine r_seq (r_region' (l_q (qmi rfl rfl) (l_q (qab rfl rfl) (l_q (qai rfl rfl) (l_nil (r_forget [(4, .bool _), (5, .int _ _)] ⟨rfl, rfl, trivial⟩ (fun e4 => (r_ret_ (vs := [.bool _, .int _ _]) rfl Try.func8 rfl (.nil _) ⟨rfl, rfl, trivial⟩ ?_))))))))
  exact ⟨rul_e hp, Ext.of_below hB⟩
 ·
  replace hc3 := dt (nf hc3)
  have hp : planP (po nd pl L) (R.map (·.xs)) = 0 := by simpa using hc3
  obtain ⟨hok, hRn, hRr2⟩ := plan_ok hp
  obtain ⟨⟨hn1, hn5⟩, ⟨hp1, hp4⟩, hL4, hnn, hpp, hLL⟩ := po_ok hok
  have hRon : ∀ s ∈ R, s.xs.length ≤ 8 ∧ ∀ i ∈ s.xs, 0 ≤ i ∧ i ≤ (pl.length : Int) - 1 := fun s hs => ris_on hp4 (hRr2 s hs)
  refine r_skip (r_seq (r_region' (l_q (q_load_agg (n := 3) Try.isAgg29 Try.sizeOf29 rfl ((hb1.cells' (cs' := [_, _, _]) 0 3 rfl)) rfl rfl) (l_q (qms rfl rfl) (l_o (o_call Try.call28 rfl (rules_ret na nc nd pa pc pl ca cc L _ _ R _ (hpo.below hB) hok (hR.below hB) (hRr.below hB) (by omega) hRon) rfl ?_))))))
  rintro _ w5 ⟨rfl, hE5⟩
  replace hB := below_ext hB hE5 hsz
  replace hsz := Nat.le_trans hsz hE5.size
  refine l_q (qab rfl rfl) (l_q (qai rfl rfl) (l_nil (r_forget [(4, .bool _), (5, .int _ _)] ⟨rfl, rfl, trivial⟩ (fun e6 => (r_ret_ (vs := [.bool _, .int _ _]) rfl Try.func8 rfl (.nil _) ⟨rfl, rfl, trivial⟩ ?_)))))
  exact ⟨rul_k hp, Ext.of_below hB⟩
theorem Fails_ret (na : Option Addr) (nc : Nat) (nd : List Int) (pa : Option Addr) (pc : Nat) (pl : List PV) (ca : Option Addr) (cc : Nat) (L : List SV) (ra : Option Addr) (rc : Nat) (R : List SV) (w : World) (hpo : PoAt w na nc nd pa pc pl ca cc L) (hnl : nd.length ≤ 2097152) (hpll : pl.length ≤ 2097152) (hLl : L.length ≤ 2097152) (hLs : ∀ s ∈ L, s.xs.length ≤ 2097152) (hR : Row w ra R.length rc 1 (R.map SV.enc)) (hRr : RowsI w R) (hRl : R.length ≤ 2097152) (hRx : ∀ s ∈ R, s.xs.length ≤ 2097152) : Ret Try.prog 42 [.agg ⟨[.slice na nd.length nc, .slice pa pl.length pc, .slice ca L.length cc]⟩, .slice ra R.length rc] w (fun v w' => ∃ ra rc, v = .tuple ⟨[.slice ra (failsR nd pl L R).2.length rc, vint (failsR nd pl L R).1]⟩ ∧ Row w' ra (failsR nd pl L R).2.length rc 1 ((failsR nd pl L R).2.map vint) ∧ Ext w w') := by
 have hB := Below.refl w.heap.size w
 have hsz : w.heap.size ≤ w.heap.size := Nat.le_refl _
 refine ret_of_runs (args := [_, _]) Try.func42 rfl (Nat.le_of_ble_eq_true rfl) (by kernel_rfl) (r_seq (r_region' (l_o (o_box rfl rfl rfl ?_))))
 intro b1 w1 hzl1 hzr1 _ hb1 hE1
 have hbs_b1 : w.heap.size ≤ b1 := Nat.le_trans hsz hzl1
 replace hB := below_ext hB hE1 hsz
 replace hsz := Nat.le_trans hsz hE1.size
 refine l_o (o_box rfl rfl rfl ?_)
 intro b2 w2 hzl2 hzr2 _ hb2 hE2
 have hne_b1_b2 : b1 ≠ b2 := by have := hb1.lt; omega
 have hbs_b2 : w.heap.size ≤ b2 := Nat.le_trans hsz hzl2
 replace hB := below_ext hB hE2 hsz
 replace hb1 := hb1.ext hE2
 replace hsz := Nat.le_trans hsz hE2.size
 refine l_q (qas rfl rfl) (l_q (qai rfl rfl) (l_nil (r_seq (r_seq (r_region' (l_q (q_load_agg (n := 3) Try.isAgg29 Try.sizeOf29 rfl ((hb1.cells' (cs' := [_, _, _]) 0 3 rfl)) rfl rfl) (l_q (q_load Try.isAgg22 rfl ((hb2.has (o := 0) rfl)) rfl) (l_o (o_call Try.call27 rfl (rcheck_ret na nc nd pa pc pl ca cc L _ _ R _ (hpo.below hB) hnl hpll hLl hLs (hR.below hB) (hRr.below hB) hRl hRx) rfl ?_)))))))))
 rintro _ w3 ⟨rfl, hE3⟩
 replace hB := below_ext hB hE3 hsz
 replace hb1 := hb1.ext hE3
 replace hb2 := hb2.ext hE3
 replace hsz := Nat.le_trans hsz hE3.size
 refine l_q (qai rfl rfl) (l_nil (r_seq (r_region' (l_q (qmi rfl rfl) (l_q (q_neq rfl rfl rfl) (l_nil (r_cond rfl (fun hc4 => ?_) (fun hc4 => ?_))))))))
 ·
  replace hc4 := df (nt hc4)
  have hp := hc4
  refine r_seq (r_region' (l_q (qmi rfl rfl) (l_q (qas rfl rfl) (l_q (qai rfl rfl) (l_nil (r_forget [(4, .slice _ _ _), (5, .int _ _)] ⟨rfl, rfl, trivial⟩ (fun e5 => (r_ret_ (vs := [.slice _ _ _, .int _ _]) rfl Try.func42 rfl (.nil _) ⟨rfl, rfl, trivial⟩ ?_))))))))
  exact ⟨none, 0, by rw [failsR_e hp]; rfl, by rw [failsR_e hp]; exact Row.nil _ _ _ _, Ext.of_below hB⟩
 ·
  replace hc4 := dt (nf hc4)
  have hp : planP (po nd pl L) (R.map (·.xs)) = 0 := by simpa using hc4
  obtain ⟨hok, hRn, hRr2⟩ := plan_ok hp
  obtain ⟨⟨hn1, hn5⟩, ⟨hp1, hp4⟩, hL4, hnn, hpp, hLL⟩ := po_ok hok
  have hRon : ∀ s ∈ R, s.xs.length ≤ 8 ∧ ∀ i ∈ s.xs, 0 ≤ i ∧ i ≤ (pl.length : Int) - 1 := fun s hs => ris_on hp4 (hRr2 s hs)
  refine r_skip (r_seq (r_region' (l_q (q_fieldAddr (o' := 2) rfl fld29_2 rfl) (l_q (q_load Try.isAgg22 rfl ((hb1.has (o := 2) rfl)) rfl) (l_q (q_len rfl Try.underlying22 rfl rfl) (l_q (q_add rfl rfl (by omega) rfl) (l_o (o_makeSlice (n := (L.length + 1)) Try.underlying26 el3 (rfl) (rfl) (by omega) (by unfold maxLen; omega) rfl ?_))))))))
  intro b6 w6 hzl6 hzr6 _ hb6 hE6 ho6
  rw [made_one _ _ rfl] at hb6 ho6
  have hne_b1_b6 : b1 ≠ b6 := by have := hb1.lt; omega
  have hne_b2_b6 : b2 ≠ b6 := by have := hb2.lt; omega
  have hbs_b6 : w.heap.size ≤ b6 := Nat.le_trans hsz hzl6
  replace hB := below_ext hB hE6 hsz
  replace hb1 := hb1.ext hE6
  replace hb2 := hb2.ext hE6
  replace hsz := Nat.le_trans hsz hE6.size
  have hty := ty_of_own ho6
  replace hb6 : Blk w6 b6 ((List.replicate (L.length + 1) 0).map vint) := by rw [List.map_replicate]; exact hb6
  refine l_o (o_alloc Try.zeroValue26 rfl rfl ?_)
  intro b7 w7 hzl7 hzr7 _ hb7 hE7
  have hne_b1_b7 : b1 ≠ b7 := by have := hb1.lt; omega
  have hne_b2_b7 : b2 ≠ b7 := by have := hb2.lt; omega
  have hne_b6_b7 : b6 ≠ b7 := by have := hb6.lt; omega
  have hbs_b7 : w.heap.size ≤ b7 := Nat.le_trans hsz hzl7
  replace hB := below_ext hB hE7 hsz
  replace hb1 := hb1.ext hE7
  replace hb2 := hb2.ext hE7
  replace hb6 := hb6.ext hE7
  replace hty := hty.ext hE7
  replace hsz := Nat.le_trans hsz hE7.size
  refine l_o (o_store (vs := [.slice (some ⟨b6, 0, none⟩) (L.length + 1) (L.length + 1)]) (cs' := [.slice (some ⟨b6, 0, none⟩) (L.length + 1) (L.length + 1)]) Try.sizeOf26 rfl rfl rfl rfl hb7 (Nat.le_of_ble_eq_true rfl) rfl rfl ?_)
  intro w8 hz8 hb7 hG8
  replace hB := below_upd hB hG8 hsz (by omega)
  replace hsz : w.heap.size ≤ w8.heap.size := by rw [hz8]; exact hsz
  replace hb1 := hb1.upd hG8 (by omega)
  replace hb2 := hb2.upd hG8 (by omega)
  replace hb6 := hb6.upd hG8 (by omega)
  replace hty := hty.upd hG8 (by omega)
  refine l_nil (r_forget [(2, .pointer _), (3, .pointer _), (7, .pointer _)] ⟨rfl, rfl, rfl, trivial⟩ (fun e9 => (r_seq (r_seq (r_region' (l_q (q_load_agg (n := 3) Try.isAgg29 Try.sizeOf29 rfl ((hb1.cells' (cs' := [_, _, _]) 0 3 rfl)) rfl rfl) (l_o (o_call Try.call53 rfl (cases_ret na nc nd pa pc pl ca cc L _) rfl ?_))))))))
  rintro _ w10 ⟨bx10, rfl, hbx10, hx10, hE10⟩
  have hne_b1_bx10 : b1 ≠ bx10 := by have := hb1.lt; omega
  have hne_b2_bx10 : b2 ≠ bx10 := by have := hb2.lt; omega
  have hne_b6_bx10 : b6 ≠ bx10 := by have := hb6.lt; omega
  have hne_b7_bx10 : b7 ≠ bx10 := by have := hb7.lt; omega
  have hbs_bx10 : w.heap.size ≤ bx10 := Nat.le_trans hsz hbx10
  replace hB := below_ext hB hE10 hsz
  replace hb1 := hb1.ext hE10
  replace hb2 := hb2.ext hE10
  replace hb6 := hb6.ext hE10
  replace hty := hty.ext hE10
  replace hb7 := hb7.ext hE10
  replace hsz := Nat.le_trans hsz hE10.size
  refine l_nil (r_block (r_rangeFunc' (fst := []) (cap := [_]) rfl rfl Try.call72 ?_))
  intro l db wl Lp hLp hLk hEl hll hldb hlne hdbN hlN hdb hlp
  have hlt_b1 := hb1.lt
  have hlt_b2 := hb2.lt
  have hlt_b6 := hb6.lt
  have hlt_b7 := hb7.lt
  have hlt_bx10 := hx10.lt
  have hszl := hEl.size
  replace hB := below_ext hB hEl hsz
  replace hb1 := hb1.ext hEl
  replace hb2 := hb2.ext hEl
  replace hb6 := hb6.ext hEl
  replace hty := hty.ext hEl
  replace hb7 := hb7.ext hEl
  replace hx10 := hx10.ext hEl
  replace hsz := Nat.le_trans hsz hEl.size
  have hbs_l : w.heap.size ≤ l := by omega
  have hbs_db : w.heap.size ≤ db := by omega
  have hJ0 : (fun (k : Nat) wq => (Blk wq b1 [.slice na nd.length nc, .slice pa pl.length pc, .slice ca L.length cc]) ∧ (Blk wq b2 [.slice ra R.length rc]) ∧ (Blk wq b6 ((failV nd R L k).map vint)) ∧ (TyAt wq b6 3) ∧ (Blk wq b7 [.slice (some ⟨b6, 0, none⟩) (L.length + 1) (L.length + 1)]) ∧ (Blk wq bx10 [.slice na nd.length nc, .slice pa pl.length pc, .slice ca L.length cc]) ∧ (Lp wq .ready none) ∧ (wq.heap[db]? = some (.deferred (some []))) ∧ (Below w.heap.size w wq)) 0 wl := ⟨hb1, hb2, (blk_eq failV_0 hb6), hty, hb7, hx10, hlp, hdb, hB⟩
  refine (cases1_ret l bx10 na nc nd pa pc pl ca cc L (fun (k : Nat) wq => (Blk wq b1 [.slice na nd.length nc, .slice pa pl.length pc, .slice ca L.length cc]) ∧ (Blk wq b2 [.slice ra R.length rc]) ∧ (Blk wq b6 ((failV nd R L k).map vint)) ∧ (TyAt wq b6 3) ∧ (Blk wq b7 [.slice (some ⟨b6, 0, none⟩) (L.length + 1) (L.length + 1)]) ∧ (Blk wq bx10 [.slice na nd.length nc, .slice pa pl.length pc, .slice ca L.length cc]) ∧ (Lp wq .ready none) ∧ (wq.heap[db]? = some (.deferred (some []))) ∧ (Below w.heap.size w wq)) (fun wq => False) wl (by omega) (by omega) hJ0 (fun k w1 hJ => by
      obtain ⟨hb1, hb2, hb6, hty, hb7, hx10, hlp, hdb, hB⟩ := hJ
      exact ⟨hx10, (hpo.below hB).rC, (hpo.below hB).rCr⟩) ?_).mono ?_
  · intro k w1 hk hJ hN
    obtain ⟨hb1, hb2, hb6, hty, hb7, hx10, hlp, hdb, hB⟩ := hJ
    refine yieldAt_of ((hLp _ _ _).1 hlp) rfl (by rfl) (by kernel_rfl) ?_
    have hsz : w.heap.size ≤ w1.heap.size := by omega
    have hszr : w1.heap.size ≤ w1.heap.size := Nat.le_refl _
    have hil := ill_all (k := k) hLL hRon
    have hkL : k ≤ L.length := hk
    refine r_forget [(2, ptr b1 0), (3, ptr b2 0), (7, ptr b7 0), (23, vint (k : Int)), (24, .slice ((L.getD k sv0).a) ((L.getD k sv0).xs.length) ((L.getD k sv0).c))] ⟨rfl, rfl, rfl, rfl, rfl, trivial⟩ (fun e11 => (r_seq (r_region' (l_q (qai rfl rfl) (l_nil (r_region' (l_q (qas rfl rfl) (l_nil (r_begin rfl ((hLp _ _ _).1 hlp) ?_)))))))))
    intro wb12 hzb12 hgb12 hl12
    replace hB := below_upd hB hgb12 hsz hbs_l
    replace hsz : w.heap.size ≤ wb12.heap.size := by rw [hzb12]; exact hsz
    replace hb1 := hb1.upd hgb12 (by omega)
    replace hb2 := hb2.upd hgb12 (by omega)
    replace hb6 := hb6.upd hgb12 (by omega)
    replace hty := hty.upd hgb12 (by omega)
    replace hb7 := hb7.upd hgb12 (by omega)
    replace hx10 := hx10.upd hgb12 (by omega)
    replace hdb := (hgb12.block db (heap_lt hdb) (by simp; omega)).trans hdb
    replace hszr := Nat.le_trans hszr hgb12.size
    have hlp := (hLp _ _ _).2 hl12
    refine r_block (r_draw ext_refl' ext_trans' [0, 1, 2, 3, 4, 5, 6, 7] [5, 7, 1007] 9 (by kernel_rfl) (by kernel_rfl) ?_)
    intro w13 _ hE13
    replace hB := below_ext hB hE13 hsz
    replace hb1 := hb1.ext hE13
    replace hb2 := hb2.ext hE13
    replace hb6 := hb6.ext hE13
    replace hty := hty.ext hE13
    replace hb7 := hb7.ext hE13
    replace hx10 := hx10.ext hE13
    replace hdb := (hE13.block db (heap_lt hdb) (by simp)).trans hdb
    replace hszr := Nat.le_trans hszr hE13.size
    replace hlp := hLk _ _ _ _ hlp (hE13.block l (((hLp _ _ _).1 hlp).lt) (by simp))
    replace hsz := Nat.le_trans hsz hE13.size
    refine m_q rfl rfl (fun w' hC' => q_load Try.isAgg26 rfl (((hb7.has (o := 0) rfl).ext hC')) rfl) (m_q rfl rfl (fun w' hC' => qmi rfl rfl) (m_q rfl rfl (fun w' hC' => q_load_agg (n := 3) Try.isAgg29 Try.sizeOf29 rfl (((hb1.cells' (cs' := [_, _, _]) 0 3 rfl).ext hC')) rfl rfl) (m_q rfl rfl (fun w' hC' => q_load Try.isAgg22 rfl (((hb2.has (o := 0) rfl).ext hC')) rfl) (m_q rfl rfl (fun w' hC' => qms rfl rfl) (m_o rfl rfl (o_call Try.call66 rfl (fails_ret na nc nd pa pc pl ca cc L _ _ R _ _ ((L.getD k sv0).xs) _ (hpo.below hB) (hR.below hB) (hRr.below hB) (by omega) (by omega) hRx ((RowsI.any hpo.rCr k).below hB) hil) rfl ?_))))))
    rintro _ w14 ⟨rfl, hE14⟩
    refine ⟨hE14, ?_⟩
    replace hB := below_ext hB hE14 hsz
    replace hb1 := hb1.ext hE14
    replace hb2 := hb2.ext hE14
    replace hb6 := hb6.ext hE14
    replace hty := hty.ext hE14
    replace hb7 := hb7.ext hE14
    replace hx10 := hx10.ext hE14
    replace hdb := (hE14.block db (heap_lt hdb) (by simp)).trans hdb
    replace hszr := Nat.le_trans hszr hE14.size
    replace hlp := hLk _ _ _ _ hlp (hE14.block l (((hLp _ _ _).1 hlp).lt) (by simp))
    replace hsz := Nat.le_trans hsz hE14.size
    refine m_q rfl rfl (fun w' hC' => q_indexAddr1 Try.underlying26 Try.sizeOf3 rfl rfl rfl (by omega) rfl) (m_last rfl rfl rfl (o_store1t (v := vint (failC nd R (L.getD k sv0))) (o := 0 + k) Try.sizeOf3 rfl rfl rfl rfl hb6 hty (by rw [List.length_map]; rw [failV_len (by omega)]; omega) rfl ?_))
    intro w15 hz15 hb6 hty hG15
    rw [imap_set] at hb6
    replace hB := below_upd hB hG15 hsz (by omega)
    replace hsz : w.heap.size ≤ w15.heap.size := by rw [hz15]; exact hsz
    replace hb1 := hb1.upd hG15 (by omega)
    replace hb2 := hb2.upd hG15 (by omega)
    replace hb7 := hb7.upd hG15 (by omega)
    replace hx10 := hx10.upd hG15 (by omega)
    replace hdb := (hG15.block db (heap_lt hdb) (by simp; omega)).trans hdb
    replace hszr := Nat.le_trans hszr hG15.size
    replace hlp := hLk _ _ _ _ hlp (hG15.block l (((hLp _ _ _).1 hlp).lt) (by simp; omega))
    refine m_nil (r_forget [] trivial (fun e16 => (r_inBlock (r_round_end rfl ((hLp _ _ _).1 hlp) ?_))))
    intro we17 hze17 hge17 hl17
    replace hB := below_upd hB hge17 hsz hbs_l
    replace hsz : w.heap.size ≤ we17.heap.size := by rw [hze17]; exact hsz
    replace hb1 := hb1.upd hge17 (by omega)
    replace hb2 := hb2.upd hge17 (by omega)
    replace hb6 := hb6.upd hge17 (by omega)
    replace hty := hty.upd hge17 (by omega)
    replace hb7 := hb7.upd hge17 (by omega)
    replace hx10 := hx10.upd hge17 (by omega)
    replace hdb := (hge17.block db (heap_lt hdb) (by simp; omega)).trans hdb
    replace hszr := Nat.le_trans hszr hge17.size
    have hlp := (hLp _ _ _).2 hl17
    exact ⟨true, rfl, fun _ => ⟨hb1, hb2, (blk_eq (failV_step hkL) hb6), hty, hb7, hx10, hlp, hdb, hB⟩, (fun h => by cases h), hszr⟩
  · rintro _ w2 (hJ | hJ)
    ·
     obtain ⟨hb1, hb2, hb6, hty, hb7, hx10, hlp, hdb, hB⟩ := hJ
     have hfl := failV_len (nd := nd) (R := R) (L := L) (k := L.length + 1) (Nat.le_refl _)
     refine ⟨.ready, none, (by decide), hlp, rfl, ?_⟩
     intro w3 hz3 hg3
     have hsz2 : w.heap.size ≤ w2.heap.size := hB.size
     replace hB := below_upd hB hg3 hsz2 hbs_l
     have hsz : w.heap.size ≤ w3.heap.size := by rw [hz3]; exact hsz2
     replace hb6 := hb6.upd hg3 (by omega)
     replace hb7 := hb7.upd hg3 (by omega)
     replace hdb := (hg3.block db (heap_lt hdb) (by simp; omega)).trans hdb
     refine r_inBlock (r_seq (r_region' (l_q (q_load Try.isAgg26 rfl ((hb7.has (o := 0) rfl)) rfl) (l_q (qas rfl rfl) (l_q (qai rfl rfl) (l_nil ?_))))))
     obtain ⟨wf18, hUf, hzf18, hGf18⟩ := unw_one hdb
     replace hB := below_upd hB hGf18 hsz (by omega)
     replace hsz : w.heap.size ≤ wf18.heap.size := by rw [hzf18]; exact hsz
     replace hb6 := hb6.upd hGf18 (by omega)
     refine r_ret_ (vs := [.slice _ _ _, .int _ _]) rfl Try.func42 rfl (hUf) ⟨rfl, rfl, trivial⟩ ?_
     exact ⟨some ⟨b6, 0, none⟩, L.length + 1, by rw [failsR_k hp]; exact congrArg (fun n => Value.tuple ⟨[.slice (some ⟨b6, 0, none⟩) n (L.length + 1), vint 0]⟩) hfl.symm, by rw [failsR_k hp]; exact row_of_blk hb6 (by rw [List.length_map]) (by show (failV nd R L (L.length + 1)).length ≤ _; omega), Ext.of_below hB⟩
    ·
     exact hJ.elim
end Go.Proofs.Ytbikicakdkbcgaa
