/- Contracts. -/
import Derived.Test.YtbikicakdkbcgabGreatR3
set_option linter.unusedVariables false
set_option linter.unusedSimpArgs false
namespace Go.Proofs.YtbikicakdkbcgabGreat
open Go Go.RowKit Go.Gv Go.Fl

theorem RowsI.any {w : World} {l : List SV} (h : RowsI w l) (k : Nat) : Row w (l.getD k sv0).a (l.getD k sv0).xs.length (l.getD k sv0).c 1 ((l.getD k sv0).xs.map vint) := by
  by_cases hk : k < l.length
  · exact h.get hk
  · rw [List.getD_eq_getElem?_getD, List.getElem?_eq_none (by omega)]; exact Row.nil _ _ _ _
def casB (L : List SV) (need : Int) (wt : Nat) (xs : List Int) (k : Nat) : Bool := decide (need ≤ awkN (L.getD k sv0).a.isNone (L.getD k sv0).xs (wt : Int) xs)
def holdsP (C : List (List Int)) (need : Int) (wt : Nat) (xs : List Int) : Bool := C.all (fun l => decide (need ≤ awkN false l (wt : Int) xs)) && decide (need ≤ (xs.length : Int))
theorem casB_yes {L : List SV} {need : Int} {wt : Nat} {xs : List Int} {k : Nat} (h : need ≤ awkN (L.getD k sv0).a.isNone (L.getD k sv0).xs (wt : Int) xs) : casB L need wt xs k = true := decide_eq_true h
theorem casB_no {L : List SV} {need : Int} {wt : Nat} {xs : List Int} {k : Nat} (h : awkN (L.getD k sv0).a.isNone (L.getD k sv0).xs (wt : Int) xs < need) : casB L need wt xs k = false := decide_eq_false (by omega)
theorem row_some {w : World} {a : Option Addr} {n c : Nat} {xs : List Int} (h : Row w a n c 1 (xs.map vint)) (hl : 0 < xs.length) : a.isNone = false := by
  rcases h.2.2 with h0 | ⟨b, o, rfl, _⟩
  · simp at h0; subst h0; simp at hl
  · rfl
theorem awk_nil (ix xs : List Int) (wt : Int) : awkN true ix wt xs = (xs.length : Int) := by
  unfold awkN
  rw [List.filter_eq_self.2 (fun i _ => by unfold awkB; rfl)]
theorem holdsB_eq {w : World} {L : List SV} {need : Int} {wt : Nat} {xs : List Int} (h : ∀ s ∈ L, Row w s.a s.xs.length s.c 1 (s.xs.map vint) ∧ 0 < s.xs.length) : (List.range (L.length + 1)).all (casB L need wt xs) = holdsP (L.map (·.xs)) need wt xs := by
  unfold holdsP
  rw [List.range_succ, List.all_append, List.all_cons, List.all_nil, Bool.and_true]
  have h1 : casB L need wt xs L.length = decide (need ≤ (xs.length : Int)) := by
    unfold casB
    rw [getD_last]
    show decide (need ≤ awkN true [] _ xs) = _
    rw [awk_nil]
  have h2 : (List.range L.length).all (casB L need wt xs) = (L.map (·.xs)).all (fun l => decide (need ≤ awkN false l (wt : Int) xs)) := by
    rw [xs_all, ← range_all L sv0]
    have : ∀ k ∈ List.range L.length, casB L need wt xs k = decide (need ≤ awkN false (L.getD k sv0).xs (wt : Int) xs) := by
      intro k hk
      have hm := h _ (getD_lt (l := L) (d := sv0) (List.mem_range.1 hk))
      unfold casB
      rw [row_some hm.1 hm.2]
    rw [Bool.eq_iff_iff, List.all_eq_true, List.all_eq_true]
    exact ⟨fun hx k hk => by rw [← this k hk]; exact hx k hk, fun hx k hk => by rw [this k hk]; exact hx k hk⟩
  rw [h1, h2]
theorem ill_ok {L : List SV} {n m : Nat} {xs : List Int} {k : Nat} (hLL : ∀ s ∈ L, s.xs.length = n ∧ ∀ i ∈ s.xs, -1 ≤ i ∧ i ≤ (m : Int) - 1) (hon : ∀ i ∈ xs, 0 ≤ i ∧ i ≤ (n : Int) - 1) : (L.getD k sv0).a.isNone = false → ∀ i ∈ xs, 0 ≤ i ∧ i < ((L.getD k sv0).xs.length : Int) := by
  intro h i hi
  by_cases hk : k < L.length
  · have := (hLL _ (getD_lt (d := sv0) hk)).1
    have := hon i hi
    omega
  · rw [List.getD_eq_getElem?_getD, List.getElem?_eq_none (by omega)] at h; cases h
theorem ris_get {xs : List Int} {be : Int} (h : risB xs be = true) : ∀ k, k < xs.length → (k : Int) ≤ xs.getD k 0 ∧ xs.getD k 0 ≤ be - 1 := by
  have hk : ∀ k, k < xs.length → lastAt xs k + 1 ≤ xs.getD k 0 ∧ xs.getD k 0 ≤ be - 1 := fun k hk => by
    have := List.all_eq_true.1 h k (List.mem_range.2 hk)
    simpa [rAt] using this
  intro k
  induction k with
  | zero => intro h0; have := hk 0 h0; simp only [lastAt] at this; omega
  | succ k ih =>
    intro h1
    have h2 := ih (by omega)
    have h3 := hk (k + 1) h1
    simp only [lastAt] at h3
    omega
theorem holds_ret (na : Option Addr) (nc : Nat) (nd : List Int) (pa : Option Addr) (pc : Nat) (pl : List PV) (ca : Option Addr) (cc : Nat) (L : List SV) (xa : Option Addr) (xc : Nat) (xs : List Int) (wt : Nat) (w : World) (hpo : PoAt w na nc nd pa pc pl ca cc L) (hok : faultP (po nd pl L) = 0) (hx : Row w xa xs.length xc 1 (xs.map vint)) (hxn : xs.length ≤ 2097152) (hon : ∀ i ∈ xs, 0 ≤ i ∧ i ≤ (pl.length : Int) - 1) (hwt : wt < nd.length) : Ret Tryz.prog 72 [.agg ⟨[.slice na nd.length nc, .slice pa pl.length pc, .slice ca L.length cc]⟩, .slice xa xs.length xc, vint (wt : Int)] w (fun v w' => v = .bool (holdsP (L.map (·.xs)) (nd.getD wt 0) wt xs) ∧ Ext w w') := by
 obtain ⟨⟨hn1, hn5⟩, ⟨hp1, hp4⟩, hL4, hnn, hpp, hLL⟩ := po_ok hok
 have hB := Below.refl w.heap.size w
 have hsz : w.heap.size ≤ w.heap.size := Nat.le_refl _
 refine ret_of_runs (args := [_, _, _]) Tryz.func72 rfl (Nat.le_of_ble_eq_true rfl) (by kernel_rfl) (r_seq (r_region' (l_o (o_box rfl rfl rfl ?_))))
 intro b1 w1 hzl1 hzr1 _ hb1 hE1
 have hbs_b1 : w.heap.size ≤ b1 := Nat.le_trans hsz hzl1
 replace hB := below_ext hB hE1 hsz
 replace hsz := Nat.le_trans hsz hE1.size
 refine l_o (o_box rfl rfl rfl ?_)
 intro b2 w2 hzl2 hzr2 _ hb2 hE2
 have hne_b1_b2 : b1 ≠ b2 := by have := hb1.lt; omega
 have hbs_b2 : w.heap.size ≤ b2 := Nat.le_trans hsz hzl2
 replace hB := below_ext hB hE2 hsz
 replace hb1 := hb1.ext hE2
 replace hsz := Nat.le_trans hsz hE2.size
 refine l_o (o_box rfl rfl rfl ?_)
 intro b3 w3 hzl3 hzr3 _ hb3 hE3
 have hne_b1_b3 : b1 ≠ b3 := by have := hb1.lt; omega
 have hne_b2_b3 : b2 ≠ b3 := by have := hb2.lt; omega
 have hbs_b3 : w.heap.size ≤ b3 := Nat.le_trans hsz hzl3
 replace hB := below_ext hB hE3 hsz
 replace hb1 := hb1.ext hE3
 replace hb2 := hb2.ext hE3
 replace hsz := Nat.le_trans hsz hE3.size
 refine l_o (o_alloc Tryz.zeroValue4 rfl rfl ?_)
 intro b4 w4 hzl4 hzr4 _ hb4 hE4
 have hne_b1_b4 : b1 ≠ b4 := by have := hb1.lt; omega
 have hne_b2_b4 : b2 ≠ b4 := by have := hb2.lt; omega
 have hne_b3_b4 : b3 ≠ b4 := by have := hb3.lt; omega
 have hbs_b4 : w.heap.size ≤ b4 := Nat.le_trans hsz hzl4
 replace hB := below_ext hB hE4 hsz
 replace hb1 := hb1.ext hE4
 replace hb2 := hb2.ext hE4
 replace hb3 := hb3.ext hE4
 replace hsz := Nat.le_trans hsz hE4.size
 refine l_nil (r_seq (r_seq (r_region' (l_q (q_load_agg (n := 3) Tryz.isAgg64 Tryz.sizeOf64 rfl ((hb1.cells' (cs' := [_, _, _]) 0 3 rfl)) rfl rfl) (l_o (o_call Tryz.call89 rfl (cases_ret na nc nd pa pc pl ca cc L _) rfl ?_))))))
 rintro _ w5 ⟨bx5, rfl, hbx5, hx5, hE5⟩
 have hne_b1_bx5 : b1 ≠ bx5 := by have := hb1.lt; omega
 have hne_b2_bx5 : b2 ≠ bx5 := by have := hb2.lt; omega
 have hne_b3_bx5 : b3 ≠ bx5 := by have := hb3.lt; omega
 have hne_b4_bx5 : b4 ≠ bx5 := by have := hb4.lt; omega
 have hbs_bx5 : w.heap.size ≤ bx5 := Nat.le_trans hsz hbx5
 replace hB := below_ext hB hE5 hsz
 replace hb1 := hb1.ext hE5
 replace hb2 := hb2.ext hE5
 replace hb3 := hb3.ext hE5
 replace hb4 := hb4.ext hE5
 replace hsz := Nat.le_trans hsz hE5.size
 refine l_nil (r_block (r_rangeFunc' (fst := []) (cap := [_]) rfl rfl Tryz.call99 ?_))
 intro l db wl Lp hLp hLk hEl hll hldb hlne hdbN hlN hdb hlp
 have hlt_b1 := hb1.lt
 have hlt_b2 := hb2.lt
 have hlt_b3 := hb3.lt
 have hlt_b4 := hb4.lt
 have hlt_bx5 := hx5.lt
 have hszl := hEl.size
 replace hB := below_ext hB hEl hsz
 replace hb1 := hb1.ext hEl
 replace hb2 := hb2.ext hEl
 replace hb3 := hb3.ext hEl
 replace hb4 := hb4.ext hEl
 replace hx5 := hx5.ext hEl
 replace hsz := Nat.le_trans hsz hEl.size
 have hbs_l : w.heap.size ≤ l := by omega
 have hbs_db : w.heap.size ≤ db := by omega
 have hJ0 : (fun (k : Nat) wq => (Blk wq b1 [.slice na nd.length nc, .slice pa pl.length pc, .slice ca L.length cc]) ∧ (Blk wq b2 [.slice xa xs.length xc]) ∧ (Blk wq b3 [vint (wt : Int)]) ∧ (Blk wq b4 [.bool false]) ∧ (Blk wq bx5 [.slice na nd.length nc, .slice pa pl.length pc, .slice ca L.length cc]) ∧ (Lp wq .ready none) ∧ (wq.heap[db]? = some (.deferred (some []))) ∧ (Below w.heap.size w wq) ∧ (∀ j, j < k → casB L (nd.getD wt 0) wt xs j = true)) 0 wl := ⟨hb1, hb2, hb3, hb4, hx5, hlp, hdb, hB, (fun j hj => absurd hj (Nat.not_lt_zero _))⟩
 refine (cases1_ret l bx5 na nc nd pa pc pl ca cc L (fun (k : Nat) wq => (Blk wq b1 [.slice na nd.length nc, .slice pa pl.length pc, .slice ca L.length cc]) ∧ (Blk wq b2 [.slice xa xs.length xc]) ∧ (Blk wq b3 [vint (wt : Int)]) ∧ (Blk wq b4 [.bool false]) ∧ (Blk wq bx5 [.slice na nd.length nc, .slice pa pl.length pc, .slice ca L.length cc]) ∧ (Lp wq .ready none) ∧ (wq.heap[db]? = some (.deferred (some []))) ∧ (Below w.heap.size w wq) ∧ (∀ j, j < k → casB L (nd.getD wt 0) wt xs j = true)) (fun wq => ∃ k, (Lp wq .done (some (.ret))) ∧ (wq.heap[db]? = some (.deferred (some []))) ∧ (Below w.heap.size w wq) ∧ (Blk wq b4 [.bool false]) ∧ (k ≤ L.length ∧ casB L (nd.getD wt 0) wt xs k = false)) wl (by omega) (by omega) hJ0 (fun k w1 hJ => by
     obtain ⟨hb1, hb2, hb3, hb4, hx5, hlp, hdb, hB, hno⟩ := hJ
     exact ⟨hx5, (hpo.below hB).rC, (hpo.below hB).rCr⟩) ?_).mono ?_
 · intro k w1 hk hJ hN
   obtain ⟨hb1, hb2, hb3, hb4, hx5, hlp, hdb, hB, hno⟩ := hJ
   refine yieldAt_of ((hLp _ _ _).1 hlp) rfl (by rfl) (by kernel_rfl) ?_
   have hsz : w.heap.size ≤ w1.heap.size := by omega
   have hszr : w1.heap.size ≤ w1.heap.size := Nat.le_refl _
   have hil := ill_ok (k := k) hLL hon
   have hszk : w1.heap.size ≤ w1.heap.size := Nat.le_refl _
   refine r_forget [(3, ptr b1 0), (4, ptr b2 0), (5, ptr b3 0), (6, ptr b4 0), (12, .slice ((L.getD k sv0).a) ((L.getD k sv0).xs.length) ((L.getD k sv0).c))] ⟨rfl, rfl, rfl, rfl, rfl, trivial⟩ (fun e6 => (r_region' (l_q (qas rfl rfl) (l_nil (r_begin rfl ((hLp _ _ _).1 hlp) ?_)))))
   intro wb7 hzb7 hgb7 hl7
   replace hB := below_upd hB hgb7 hsz hbs_l
   replace hsz : w.heap.size ≤ wb7.heap.size := by rw [hzb7]; exact hsz
   replace hb1 := hb1.upd hgb7 (by omega)
   replace hb2 := hb2.upd hgb7 (by omega)
   replace hb3 := hb3.upd hgb7 (by omega)
   replace hb4 := hb4.upd hgb7 (by omega)
   replace hx5 := hx5.upd hgb7 (by omega)
   replace hdb := (hgb7.block db (heap_lt hdb) (by simp; omega)).trans hdb
   replace hszr := Nat.le_trans hszr hgb7.size
   have hlp := (hLp _ _ _).2 hl7
   refine r_block (r_seq (r_draw ext_refl' ext_trans' [0, 1, 2, 4, 5, 6, 7, 8, 3, 9] [3] 9 (by kernel_rfl) (by kernel_rfl) ?_))
   intro w8 _ hE8
   replace hB := below_ext hB hE8 hsz
   replace hb1 := hb1.ext hE8
   replace hb2 := hb2.ext hE8
   replace hb3 := hb3.ext hE8
   replace hb4 := hb4.ext hE8
   replace hx5 := hx5.ext hE8
   replace hdb := (hE8.block db (heap_lt hdb) (by simp)).trans hdb
   replace hszr := Nat.le_trans hszr hE8.size
   replace hlp := hLk _ _ _ _ hlp (hE8.block l (((hLp _ _ _).1 hlp).lt) (by simp))
   replace hsz := Nat.le_trans hsz hE8.size
   refine m_q rfl rfl (fun w' hC' => q_load Tryz.isAgg27 rfl (((hb2.has (o := 0) rfl).ext hC')) rfl) (m_q rfl rfl (fun w' hC' => qms rfl rfl) (m_q rfl rfl (fun w' hC' => q_load Tryz.isAgg3 rfl (((hb3.has (o := 0) rfl).ext hC')) rfl) (m_q rfl rfl (fun w' hC' => q_fieldAddr (o' := 0) rfl fld64_0 rfl) (m_q rfl rfl (fun w' hC' => q_load Tryz.isAgg27 rfl (((hb1.has (o := 0) rfl).ext hC')) rfl) (m_q rfl rfl (fun w' hC' => q_load Tryz.isAgg3 rfl (((hb3.has (o := 0) rfl).ext hC')) rfl) ?_)))))
   obtain ⟨b9, o9, ha9, hh9⟩ := (hpo.rnd.below hB).at1 wt ((nd).getD wt 0) (getD_some (by omega))
   refine m_q rfl rfl (fun w' hC' => q_indexAddr1 Tryz.underlying27 Tryz.sizeOf3 rfl ha9 rfl (by omega) rfl) (m_q rfl rfl (fun w' hC' => q_load Tryz.isAgg3 rfl ((hh9.ext hC')) rfl) (m_o rfl rfl (o_call Tryz.call90 rfl (awake10_ret _ _ xs _ _ ((L.getD k sv0).xs) (wt : Int) _ (hx.below hB) hxn ((RowsI.any hpo.rCr k).below hB) hil) rfl ?_)))
   rintro _ w10 ⟨rfl, hE10⟩
   refine ⟨hE10, ?_⟩
   replace hB := below_ext hB hE10 hsz
   replace hb1 := hb1.ext hE10
   replace hb2 := hb2.ext hE10
   replace hb3 := hb3.ext hE10
   replace hb4 := hb4.ext hE10
   replace hx5 := hx5.ext hE10
   replace hdb := (hE10.block db (heap_lt hdb) (by simp)).trans hdb
   replace hszr := Nat.le_trans hszr hE10.size
   replace hlp := hLk _ _ _ _ hlp (hE10.block l (((hLp _ _ _).1 hlp).lt) (by simp))
   replace hsz := Nat.le_trans hsz hE10.size
   refine m_q rfl rfl (fun w' hC' => q_lss rfl rfl rfl) (m_nil (r_forget [(6, .pointer _), (22, .bool _)] ⟨rfl, rfl, trivial⟩ (fun e11 => (r_cond rfl (fun hc12 => ?_) (fun hc12 => ?_)))))
   ·
    replace hc12 := dt hc12
    have hlt := hc12
    refine r_seq (r_region' (l_o (o_store (vs := [.bool false]) (cs' := [.bool false]) Tryz.sizeOf4 rfl rfl rfl rfl hb4 (Nat.le_of_ble_eq_true rfl) rfl rfl ?_)))
    intro w13 hz13 hb4 hG13
    replace hB := below_upd hB hG13 hsz (by omega)
    replace hsz : w.heap.size ≤ w13.heap.size := by rw [hz13]; exact hsz
    replace hb1 := hb1.upd hG13 (by omega)
    replace hb2 := hb2.upd hG13 (by omega)
    replace hb3 := hb3.upd hG13 (by omega)
    replace hx5 := hx5.upd hG13 (by omega)
    replace hdb := (hG13.block db (heap_lt hdb) (by simp; omega)).trans hdb
    replace hszr := Nat.le_trans hszr hG13.size
    replace hlp := hLk _ _ _ _ hlp (hG13.block l (((hLp _ _ _).1 hlp).lt) (by simp; omega))
    refine l_nil (r_round_ret rfl ((hLp _ _ _).1 hlp) ?_)
    intro we14 hze14 hge14 hl14
    replace hB := below_upd hB hge14 hsz hbs_l
    replace hsz : w.heap.size ≤ we14.heap.size := by rw [hze14]; exact hsz
    replace hb1 := hb1.upd hge14 (by omega)
    replace hb2 := hb2.upd hge14 (by omega)
    replace hb3 := hb3.upd hge14 (by omega)
    replace hb4 := hb4.upd hge14 (by omega)
    replace hx5 := hx5.upd hge14 (by omega)
    replace hdb := (hge14.block db (heap_lt hdb) (by simp; omega)).trans hdb
    replace hszr := Nat.le_trans hszr hge14.size
    have hlp := (hLp _ _ _).2 hl14
    exact ⟨false, rfl, (fun h => by cases h), fun _ => ⟨k, hlp, hdb, hB, hb4, ⟨hk, casB_no hlt⟩⟩, hszr⟩
   ·
    replace hc12 := dlt hc12
    have hge := hc12
    refine r_skip (r_inBlock (r_round_end rfl ((hLp _ _ _).1 hlp) ?_))
    intro we15 hze15 hge15 hl15
    replace hB := below_upd hB hge15 hsz hbs_l
    replace hsz : w.heap.size ≤ we15.heap.size := by rw [hze15]; exact hsz
    replace hb1 := hb1.upd hge15 (by omega)
    replace hb2 := hb2.upd hge15 (by omega)
    replace hb3 := hb3.upd hge15 (by omega)
    replace hb4 := hb4.upd hge15 (by omega)
    replace hx5 := hx5.upd hge15 (by omega)
    replace hdb := (hge15.block db (heap_lt hdb) (by simp; omega)).trans hdb
    replace hszr := Nat.le_trans hszr hge15.size
    have hlp := (hLp _ _ _).2 hl15
    exact ⟨true, rfl, fun _ => ⟨hb1, hb2, hb3, hb4, hx5, hlp, hdb, hB, (fun j hj => by rcases Nat.lt_succ_iff_lt_or_eq.1 hj with h | h; exact hno j h; subst h; exact casB_yes hge)⟩, (fun h => by cases h), hszr⟩
 · rintro _ w2 (hJ | hJ)
   ·
    obtain ⟨hb1, hb2, hb3, hb4, hx5, hlp, hdb, hB, hno⟩ := hJ
    refine ⟨.ready, none, (by decide), hlp, rfl, ?_⟩
    intro w3 hz3 hg3
    have hsz2 : w.heap.size ≤ w2.heap.size := hB.size
    replace hB := below_upd hB hg3 hsz2 hbs_l
    have hsz : w.heap.size ≤ w3.heap.size := by rw [hz3]; exact hsz2
    replace hb4 := hb4.upd hg3 (by omega)
    replace hdb := (hg3.block db (heap_lt hdb) (by simp; omega)).trans hdb
    refine r_inBlock (r_seq (r_region' (l_o (o_store (vs := [.bool true]) (cs' := [.bool true]) Tryz.sizeOf4 rfl rfl rfl rfl hb4 (Nat.le_of_ble_eq_true rfl) rfl rfl ?_))))
    intro w16 hz16 hb4 hG16
    replace hB := below_upd hB hG16 hsz (by omega)
    replace hsz : w.heap.size ≤ w16.heap.size := by rw [hz16]; exact hsz
    replace hdb := (hG16.block db (heap_lt hdb) (by simp; omega)).trans hdb
    refine l_nil ?_
    obtain ⟨wf17, hUf, hzf17, hGf17⟩ := unw_one hdb
    replace hB := below_upd hB hGf17 hsz (by omega)
    replace hsz : w.heap.size ≤ wf17.heap.size := by rw [hzf17]; exact hsz
    replace hb4 := hb4.upd hGf17 (by omega)
    refine r_ret_ (vs := [.bool _]) rfl Tryz.func72 rfl (hUf) ⟨⟨_, _, rfl, run_loadVar1 Tryz.isAgg4 (hb4.has (o := 0) rfl)⟩, trivial⟩ ?_
    exact ⟨vbool_eq (by symm; rw [← holdsB_eq (fun s hs => ⟨hpo.rCr s hs, by have := (hLL s hs).1; omega⟩)]; exact List.all_eq_true.2 (fun j hj => hno j (List.mem_range.1 hj))), Ext.of_below hB⟩
   ·
    obtain ⟨k, hlp, hdb, hB, hb4, hbad⟩ := hJ
    refine ⟨.done, some (.ret), (by decide), hlp, rfl, ?_⟩
    intro w3 hz3 hg3
    have hsz2 : w.heap.size ≤ w2.heap.size := hB.size
    replace hB := below_upd hB hg3 hsz2 hbs_l
    have hsz : w.heap.size ≤ w3.heap.size := by rw [hz3]; exact hsz2
    replace hb4 := hb4.upd hg3 (by omega)
    replace hdb := (hg3.block db (heap_lt hdb) (by simp; omega)).trans hdb
    obtain ⟨wf18, hUf, hzf18, hGf18⟩ := unw_one hdb
    replace hB := below_upd hB hGf18 hsz (by omega)
    replace hsz : w.heap.size ≤ wf18.heap.size := by rw [hzf18]; exact hsz
    replace hb4 := hb4.upd hGf18 (by omega)
    refine r_ret_ (vs := [.bool _]) rfl Tryz.func72 rfl (hUf) ⟨⟨_, _, rfl, run_loadVar1 Tryz.isAgg4 (hb4.has (o := 0) rfl)⟩, trivial⟩ ?_
    exact ⟨vbool_eq (by symm; rw [← holdsB_eq (fun s hs => ⟨hpo.rCr s hs, by have := (hLL s hs).1; omega⟩)]; exact List.all_eq_false.2 ⟨k, List.mem_range.2 (by omega), by rw [hbad.2]; decide⟩), Ext.of_below hB⟩
end Go.Proofs.YtbikicakdkbcgabGreat
