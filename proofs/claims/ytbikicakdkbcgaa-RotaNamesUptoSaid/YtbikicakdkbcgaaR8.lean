/- Contracts. -/
import Derived.Test.YtbikicakdkbcgaaR7
import Derived.Test.YtbikicakdkbcgaaF8
set_option linter.unusedVariables false
set_option linter.unusedSimpArgs false
namespace Go.Proofs.Ytbikicakdkbcgaa
open Go Go.RowKit Go.Gv Go.Fl

theorem own_gm {w w' : World} {base e size n m : Nat} {v : Value} {xs : List Value} {es : List MapEntry} {clock : Nat} (h : w.ownsRow base e size v n xs) (hM : MapAt w m es clock) (hg : w.grownBy w' (some m)) : w'.ownsRow base e size v n xs :=
  own_keepB h (fun g hgv => hg.block g (h.lt g hgv).2 (fun he => by
    have hM2 : w.heap[g]? = some (.map es.toArray clock) := by
      have h3 : g = m := by injection he
      rw [h3]; exact hM
    rcases h.2 with ⟨h1, _⟩ | ⟨g2, cap, cur, h1, _, h2, _⟩
    · rw [h1] at hgv; cases hgv
    · rw [h1] at hgv
      cases hgv
      rw [hM2] at h2
      cases h2))
theorem stood0_b : ∀ v ∈ stood0, -1 ≤ v ∧ v ≤ 1000 := by decide
theorem lists_mem {xs l : List Int} (h : l ∈ listsL xs) : l.length ≤ xs.length ∧ ∀ i ∈ l, i ∈ xs := by
  have h1 := (sortL_perm _).mem_iff.1 h
  obtain ⟨n, _, rfl⟩ := List.mem_map.1 h1
  refine ⟨sub_len, fun i hi => ?_⟩
  unfold subK at hi
  obtain ⟨j, hj, rfl⟩ := List.mem_map.1 hi
  have := List.mem_range.1 (List.mem_filter.1 hj).1
  exact getD_lt this
theorem lists_len {xs : List Int} : (listsL xs).length = 2 ^ xs.length := by
  unfold listsL
  rw [(sortL_perm _).length_eq, List.length_map, List.length_range]
theorem lists_sm {S : List SV} {xs : List Int} (h : S.map (·.xs) = listsL xs) (h4 : xs.length ≤ 4) : S.length ≤ 2097152 := by
  have h1 := congrArg List.length h
  rw [List.length_map, lists_len] at h1
  rw [h1]
  exact Nat.le_trans (Nat.pow_le_pow_right (by decide) h4) (by decide)
theorem lists_on {S : List SV} {xs : List Int} {n : Nat} (h : S.map (·.xs) = listsL xs) (h4 : xs.length ≤ 4) (hx : ∀ i ∈ xs, 0 ≤ i ∧ i ≤ (n : Int) - 1) : ∀ s ∈ S, s.xs.length ≤ 8 ∧ ∀ i ∈ s.xs, 0 ≤ i ∧ i ≤ (n : Int) - 1 := fun s hs => by
  have h1 : s.xs ∈ listsL xs := by rw [← h]; exact List.mem_map.2 ⟨s, hs, rfl⟩
  have h2 := lists_mem h1
  exact ⟨by omega, fun i hi => hx i (h2.2 i hi)⟩
def proveR (nd : List Int) (pl : List PV) (L R : List SV) (n : Int) : Bool := decide (planP (po nd pl L) (R.map (·.xs)) = 0) && (rulL pl 0 stood0 (R.map (·.xs)) && (decide (((catL R).length : Int) ≤ n) && (List.range R.length).all (fun k => holdsP (L.map (·.xs)) (nd.getD k 0) k (R.getD k sv0).xs)))
section
variable {nd : List Int} {pl : List PV} {L R : List SV} {n : Int} {k : Nat}
theorem prove_1 (h : ¬ planP (po nd pl L) (R.map (·.xs)) = 0) : proveR nd pl L R n = false := by unfold proveR; rw [decide_eq_false h, Bool.false_and]
theorem prove_2 (h : rulL pl 0 stood0 (R.map (·.xs)) = false) : proveR nd pl L R n = false := by unfold proveR; rw [h, Bool.false_and, Bool.and_false]
theorem prove_3 (h : n < ((catL R).length : Int)) : proveR nd pl L R n = false := by unfold proveR; rw [decide_eq_false (by omega : ¬ ((catL R).length : Int) ≤ n), Bool.false_and, Bool.and_false, Bool.and_false]
theorem prove_4 (hk : k < R.length) (h : holdsP (L.map (·.xs)) (nd.getD k 0) k (R.getD k sv0).xs = false) : proveR nd pl L R n = false := by
  unfold proveR
  have : (List.range R.length).all (fun k => holdsP (L.map (·.xs)) (nd.getD k 0) k (R.getD k sv0).xs) = false := List.all_eq_false.2 ⟨k, List.mem_range.2 hk, by rw [h]; decide⟩
  rw [this, Bool.and_false, Bool.and_false, Bool.and_false]
theorem prove_5 (h1 : planP (po nd pl L) (R.map (·.xs)) = 0) (h2 : rulL pl 0 stood0 (R.map (·.xs)) = true) (h3 : ((catL R).length : Int) ≤ n) (h : ∀ k, k < R.length → holdsP (L.map (·.xs)) (nd.getD k 0) k (R.getD k sv0).xs = true) : proveR nd pl L R n = true := by
  unfold proveR
  have : (List.range R.length).all (fun k => holdsP (L.map (·.xs)) (nd.getD k 0) k (R.getD k sv0).xs) = true := List.all_eq_true.2 (fun k hk => h k (List.mem_range.1 hk))
  rw [this, decide_eq_true h1, h2, decide_eq_true h3]; rfl
end
theorem upTo_on {n : Nat} : ∀ i ∈ upTo n, 0 ≤ i ∧ i ≤ (n : Int) - 1 := fun i hi => by
  unfold upTo at hi
  obtain ⟨j, hj, rfl⟩ := List.mem_map.1 hi
  have := List.mem_range.1 hj
  omega
/-- is there a safe rota with these people alone? -/
def canP (nd : List Int) (pl : List PV) (C : List (List Int)) (xs : List Int) : Bool := decide (rfe nd pl C (listsL xs) 0 stood0 < 1024)
def enoughR (nd : List Int) (pl : List PV) (L : List SV) : Int × List Int :=
  if faultP (po nd pl L) = 0 then (match (listsL (upTo pl.length)).find? (canP nd pl (L.map (·.xs))) with | some l => (0, l) | none => (10, []))
  else (faultP (po nd pl L), [])
theorem lists_mem4 {S : List SV} {n : Nat} (h : S.map (·.xs) = listsL (upTo n)) (h4 : n ≤ 4) : ∀ s ∈ S, s.xs.length ≤ 4 ∧ ∀ i ∈ s.xs, 0 ≤ i ∧ i ≤ (n : Int) - 1 := fun s hs => by
  have h1 : s.xs ∈ listsL (upTo n) := by rw [← h]; exact List.mem_map.2 ⟨s, hs, rfl⟩
  have h2 := lists_mem h1
  rw [upTo_len] at h2
  exact ⟨by omega, fun i hi => upTo_on i (h2.2 i hi)⟩
section
variable {nd : List Int} {pl : List PV} {L S : List SV} {k : Nat}
theorem enough_e (h : ¬ faultP (po nd pl L) = 0) : enoughR nd pl L = (faultP (po nd pl L), []) := if_neg h
theorem find_at {p : List Int → Bool} : ∀ {S : List SV} {k : Nat}, k < S.length → p (S.getD k sv0).xs = true → (∀ j, j < k → p (S.getD j sv0).xs = false) → (S.map (·.xs)).find? p = some (S.getD k sv0).xs
  | s :: S, 0, _, h, _ => by
    have h2 : p s.xs = true := h
    rw [List.map_cons, List.find?_cons_of_pos h2]; rfl
  | s :: S, k + 1, hk, h, hno => by
    rw [List.map_cons, List.find?_cons_of_neg (by have := hno 0 (by omega); rw [show ((s :: S).getD 0 sv0).xs = s.xs from rfl] at this; rw [this]; decide)]
    exact find_at (by simpa using hk) h (fun j hj => hno (j + 1) (by omega))
theorem enough_yes (hok : faultP (po nd pl L) = 0) (hx : S.map (·.xs) = listsL (upTo pl.length)) (hk : k < S.length) (hc : canP nd pl (L.map (·.xs)) (S.getD k sv0).xs = true) (hno : ∀ j, j < k → canP nd pl (L.map (·.xs)) (S.getD j sv0).xs = false) : enoughR nd pl L = (0, (S.getD k sv0).xs) := by
  unfold enoughR
  rw [if_pos hok, ← hx, find_at hk hc hno]
theorem enough_no (hok : faultP (po nd pl L) = 0) (hx : S.map (·.xs) = listsL (upTo pl.length)) (hno : ∀ j, j < S.length → canP nd pl (L.map (·.xs)) (S.getD j sv0).xs = false) : enoughR nd pl L = (10, []) := by
  unfold enoughR
  have : (S.map (·.xs)).find? (canP nd pl (L.map (·.xs))) = none := List.find?_eq_none.2 (fun l hl => by
    obtain ⟨s, hs, rfl⟩ := List.mem_map.1 hl
    obtain ⟨j, hj, rfl⟩ := List.mem_iff_getElem.1 hs
    have := hno j hj
    rw [List.getD_eq_getElem?_getD, List.getElem?_eq_getElem hj] at this
    simp only [Option.getD_some] at this
    rw [this]; decide)
  rw [if_pos hok, ← hx, this]
end


theorem rfew_ret {na : Option Addr} {nc : Nat} {nd : List Int} {pa : Option Addr} {pc : Nat} {pl : List PV} {ca : Option Addr} {cc : Nat} {L : List SV} {wb : Nat} {oa : Option Addr} {oc : Nat} {S : List SV} {m : Nat} (hok : faultP (po nd pl L) = 0) (hSn : S.length ≤ 2097152) (hSon : ∀ s ∈ S, s.xs.length ≤ 8 ∧ ∀ i ∈ s.xs, 0 ≤ i ∧ i ≤ (pl.length : Int) - 1) :
    ∀ (n wt : Nat) (S0 : List Int) (w : World) (clock : Nat) (es : List MapEntry), nd.length - wt ≤ n → wt ≤ nd.length → S0.length = 8 → (∀ v ∈ S0, -1 ≤ v ∧ v ≤ 1000) → WkH w na nc nd pa pc pl ca cc L wb oa oc S m → MapAt w m es clock → SMemo nd pl (L.map (·.xs)) (S.map (·.xs)) es →
      Ret Try.prog 17 [ptr wb 0, .agg ⟨((wt : Int) :: S0).map vint⟩] w (FewW nd pl (L.map (·.xs)) (S.map (·.xs)) m wt S0 w) := by
  intro n
  induction n with
  | zero =>
    intro wt S0 w ck es hn hwt hS8 hSb hk hM hMm
    exact rfew_step _ _ _ _ _ _ _ _ _ _ _ _ _ _ _ _ wt S0 w hok hSn hSon hwt hS8 hSb hk hM hMm (fun wt2 S2 w1 es1 ck1 hlt => by omega)
  | succ n ih =>
    intro wt S0 w ck es hn hwt hS8 hSb hk hM hMm
    exact rfew_step _ _ _ _ _ _ _ _ _ _ _ _ _ _ _ _ wt S0 w hok hSn hSon hwt hS8 hSb hk hM hMm (fun wt2 S2 w1 es1 ck1 hlt h1 h2 h3 h4 h5 h6 => ih wt2 S2 w1 ck1 es1 (by omega) h1 h2 h3 h4 h5 h6)
theorem rduties_ret (ra : Option Addr) (rc : Nat) (R : List SV) (w : World) (hR : Row w ra R.length rc 1 (R.map SV.enc)) (hRr : RowsI w R) (hRl : R.length ≤ 2097152) (hRx : ∀ s ∈ R, s.xs.length ≤ 2097152) : Ret Try.prog 30 [.slice ra R.length rc] w (fun v w' => v = vint ((catL R).length : Int) ∧ Ext w w') := by
 have hB := Below.refl w.heap.size w
 have hsz : w.heap.size ≤ w.heap.size := Nat.le_refl _
 refine ret_of_runs (args := [_]) Try.func30 rfl (Nat.le_of_ble_eq_true rfl) (by kernel_rfl) (r_seq (r_region' (l_q (qai rfl rfl) (l_nil (r_seq (r_region' (l_q (qms rfl rfl) (l_o (o_call Try.call52 rfl (concat_ret _ _ R _ (hR.below hB) (hRr.below hB) hRl hRx) rfl ?_)))))))))
 rintro _ w1 ⟨a1_0, c1_0, rfl, ho1_0, hE1⟩
 replace hB := below_ext hB hE1 hsz
 replace hsz := Nat.le_trans hsz hE1.size
 refine l_q (q_len rfl Try.underlying26 rfl rfl) (l_q (qai rfl rfl) (l_nil (r_ret_ (vs := [.int _ _]) rfl Try.func30 rfl (.nil _) ⟨rfl, trivial⟩ ?_)))
 exact ⟨rfl, Ext.of_below hB⟩
theorem prove_ret (na : Option Addr) (nc : Nat) (nd : List Int) (pa : Option Addr) (pc : Nat) (pl : List PV) (ca : Option Addr) (cc : Nat) (L : List SV) (ra : Option Addr) (rc : Nat) (R : List SV) (n : Int) (w : World) (hpo : PoAt w na nc nd pa pc pl ca cc L) (hnl : nd.length ≤ 2097152) (hpll : pl.length ≤ 2097152) (hLl : L.length ≤ 2097152) (hLs : ∀ s ∈ L, s.xs.length ≤ 2097152) (hR : Row w ra R.length rc 1 (R.map SV.enc)) (hRr : RowsI w R) (hRl : R.length ≤ 2097152) (hRx : ∀ s ∈ R, s.xs.length ≤ 2097152) : Ret Try.prog 10 [.agg ⟨[.slice na nd.length nc, .slice pa pl.length pc, .slice ca L.length cc]⟩, .slice ra R.length rc, vint n] w (fun v w' => v = .bool (proveR nd pl L R n) ∧ Ext w w') := by
 have hB := Below.refl w.heap.size w
 have hsz : w.heap.size ≤ w.heap.size := Nat.le_refl _
 refine ret_of_runs (args := [_, _, _]) Try.func10 rfl (Nat.le_of_ble_eq_true rfl) (by kernel_rfl) (r_seq (r_region' (l_o (o_box rfl rfl rfl ?_))))
 intro b1 w1 hzl1 hzr1 _ hb1 hE1
 have hbs_b1 : w.heap.size ≤ b1 := Nat.le_trans hsz hzl1
 replace hB := below_ext hB hE1 hsz
 replace hsz := Nat.le_trans hsz hE1.size
 refine l_q (qab rfl rfl) (l_nil (r_seq (r_seq (r_region' (l_q (q_load_agg (n := 3) Try.isAgg29 Try.sizeOf29 rfl ((hb1.cells' (cs' := [_, _, _]) 0 3 rfl)) rfl rfl) (l_q (qms rfl rfl) (l_o (o_call Try.call27 rfl (rcheck_ret na nc nd pa pc pl ca cc L _ _ R _ (hpo.below hB) hnl hpll hLl hLs (hR.below hB) (hRr.below hB) hRl hRx) rfl ?_))))))))
 rintro _ w2 ⟨rfl, hE2⟩
 replace hB := below_ext hB hE2 hsz
 replace hb1 := hb1.ext hE2
 replace hsz := Nat.le_trans hsz hE2.size
 refine l_q (q_neq rfl rfl rfl) (l_q (qmb rfl rfl) (l_part 13 rfl (fun hc3 => ?_) (fun hc3 => ?_)))
 ·
  replace hc3 := df (nt hc3)
  have hp := hc3
  refine l_q (q_skip rfl) (l_q (q_skip rfl) (l_q (q_skip rfl) (l_q (q_skip rfl) (l_q (q_pick_t (v := .bool _) rfl rfl rfl) (l_q (qmb rfl rfl) (l_q (q_skip rfl) (l_q (q_skip rfl) (l_q (q_skip rfl) (l_q (q_skip rfl) (l_q (q_pick_t (v := .bool _) rfl rfl rfl) (l_nil (r_forget [(1, .slice _ _ _), (3, .pointer _), (24, .bool _)] ⟨rfl, rfl, rfl, trivial⟩ (fun e4 => (r_cond_t rfl (r_seq (r_region' (l_q (qab rfl rfl) (l_nil (r_ret_ (vs := [.bool _]) rfl Try.func10 rfl (.nil _) ⟨rfl, trivial⟩ ?_)))))))))))))))))))
  exact ⟨vbool_eq (by symm; first | exact prove_1 hp | exact prove_2 g19 | exact prove_3 g24), Ext.of_below hB⟩
 ·
  replace hc3 := dt (nf hc3)
  have hp : planP (po nd pl L) (R.map (·.xs)) = 0 := by simpa using hc3
  obtain ⟨hok, hRn, hRr2⟩ := plan_ok hp
  obtain ⟨⟨hn1, hn5⟩, ⟨hp1, hp4⟩, hL4, hnn, hpp, hLL⟩ := po_ok hok
  have hRon : ∀ s ∈ R, s.xs.length ≤ 8 ∧ ∀ i ∈ s.xs, 0 ≤ i ∧ i ≤ (pl.length : Int) - 1 := fun s hs => ris_on hp4 (hRr2 s hs)
  refine l_q (q_load_agg (n := 3) Try.isAgg29 Try.sizeOf29 rfl ((hb1.cells' (cs' := [_, _, _]) 0 3 rfl)) rfl rfl) (l_q (qms rfl rfl) (l_o (o_call Try.call28 rfl (rules_ret na nc nd pa pc pl ca cc L _ _ R _ (hpo.below hB) hok (hR.below hB) (hRr.below hB) (by omega) hRon) rfl ?_)))
  rintro _ w5 ⟨rfl, hE5⟩
  replace hB := below_ext hB hE5 hsz
  replace hb1 := hb1.ext hE5
  replace hsz := Nat.le_trans hsz hE5.size
  refine l_q (q_not rfl rfl) (l_q (q_pick_f (v := .bool _) rfl rfl rfl) (l_q (qmb rfl rfl) (l_part 19 rfl (fun hc6 => ?_) (fun hc6 => ?_))))
  ·
   replace hc6 := nt hc6
   have g19 := hc6
   refine l_q (q_skip rfl) (l_q (q_skip rfl) (l_q (q_skip rfl) (l_q (q_skip rfl) (l_q (q_pick_t (v := .bool _) rfl rfl rfl) (l_nil (r_forget [(1, .slice _ _ _), (3, .pointer _), (24, .bool _)] ⟨rfl, rfl, rfl, trivial⟩ (fun e7 => (r_cond_t rfl (r_seq (r_region' (l_q (qab rfl rfl) (l_nil (r_ret_ (vs := [.bool _]) rfl Try.func10 rfl (.nil _) ⟨rfl, trivial⟩ ?_)))))))))))))
   exact ⟨vbool_eq (by symm; first | exact prove_1 hp | exact prove_2 g19 | exact prove_3 g24), Ext.of_below hB⟩
  ·
   replace hc6 := nf hc6
   have g19 := hc6
   refine l_q (qms rfl rfl) (l_o (o_call Try.call30 rfl (rduties_ret _ _ R _ (hR.below hB) (hRr.below hB) hRl hRx) rfl ?_))
   rintro _ w8 ⟨rfl, hE8⟩
   replace hB := below_ext hB hE8 hsz
   replace hb1 := hb1.ext hE8
   replace hsz := Nat.le_trans hsz hE8.size
   refine l_q (qmi rfl rfl) (l_q (q_gtr rfl rfl rfl) (l_q (q_pick_f (v := .bool _) rfl rfl rfl) (l_nil (r_forget [(1, .slice _ _ _), (3, .pointer _), (24, .bool _)] ⟨rfl, rfl, rfl, trivial⟩ (fun e9 => (r_cond rfl (fun hc10 => ?_) (fun hc10 => ?_)))))))
   ·
    replace hc10 := dt hc10
    have g24 := hc10
    refine r_seq (r_region' (l_q (qab rfl rfl) (l_nil (r_ret_ (vs := [.bool _]) rfl Try.func10 rfl (.nil _) ⟨rfl, trivial⟩ ?_))))
    exact ⟨vbool_eq (by symm; first | exact prove_1 hp | exact prove_2 g19 | exact prove_3 g24), Ext.of_below hB⟩
   ·
    replace hc10 := dlt hc10
    have g24 := hc10
    refine r_skip (r_seq (r_seq (r_region' (l_q (qms rfl rfl) (l_q (q_len rfl Try.underlying22 rfl rfl) (l_q (qmi rfl rfl) (l_nil (r_block (r_rounds (α := Nat) (fun k e wl => Knows e [(3, ptr b1 0), (25, .slice ra R.length rc), (26, vint (R.length : Int)), (27, vint (k : Int))] ∧ (k ≤ R.length) ∧ (∀ k2, k2 < k → holdsP (L.map (·.xs)) (nd.getD k2 0) k2 (R.getD k2 sv0).xs = true) ∧ (Blk wl b1 [.slice na nd.length nc, .slice pa pl.length pc, .slice ca L.length cc]) ∧ (w.heap.size ≤ wl.heap.size) ∧ (Below w.heap.size w wl)) (fun k => R.length - k) 0 ?_ ?_)))))))))
    ·
     exact ⟨⟨rfl, rfl, rfl, rfl, trivial⟩, (Nat.zero_le _), (fun i hi => absurd hi (Nat.not_lt_zero _)), hb1, hsz, hB⟩
    ·
     rintro k el11 wl11 ⟨hkn, hkk, hno, hb1, hsz, hB⟩ ih11
     obtain ⟨e11, rfl⟩ := knows_env hkn
     refine r_seq (r_region' (l_q (q_lss rfl rfl rfl) (l_nil (r_seq (r_cond rfl (fun hc12 => ?_) (fun hc12 => ?_))))))
     ·
      replace hc12 := dt hc12
      have hkR : k < R.length := by omega
      have hRk := hRon _ (getD_lt (l := R) (d := sv0) hkR)
      refine r_skip (r_seq (r_block (r_seq (r_region' (l_q (qmi rfl rfl) ?_)))))
      obtain ⟨b13, o13, ha13, hh13⟩ := (hR.below hB).at1 k ((R).getD k sv0) (getD_some (by omega))
      refine l_q (q_indexAddr1 Try.underlying22 Try.sizeOf26 rfl ha13 rfl (by omega) rfl) (l_q (q_load Try.isAgg26 rfl (hh13) rfl) (l_q (qai rfl rfl) (l_q (qas rfl rfl) (l_nil (r_seq (r_region' (l_q (q_load_agg (n := 3) Try.isAgg29 Try.sizeOf29 rfl ((hb1.cells' (cs' := [_, _, _]) 0 3 rfl)) rfl rfl) (l_q (qms rfl rfl) (l_q (qmi rfl rfl) (l_o (o_call Try.call31 rfl (holds_ret na nc nd pa pc pl ca cc L _ _ (R.getD k sv0).xs k _ (hpo.below hB) hok ((RowsI.get (hRr) (i := k) (by omega)).below hB) (by omega) hRk.2 (by omega)) rfl ?_)))))))))))
      rintro _ w14 ⟨rfl, hE14⟩
      replace hB := below_ext hB hE14 hsz
      replace hb1 := hb1.ext hE14
      replace hsz := Nat.le_trans hsz hE14.size
      refine l_q (q_not rfl rfl) (l_nil (r_forget [(3, .pointer _), (25, .slice _ _ _), (26, .int _ _), (27, .int _ _), (36, .bool _)] ⟨rfl, rfl, rfl, rfl, rfl, trivial⟩ (fun e15 => (r_cond rfl (fun hc16 => ?_) (fun hc16 => ?_)))))
      ·
       replace hc16 := nt hc16
       have g36 := hc16
       refine r_seq (r_region' (l_q (qab rfl rfl) (l_nil (r_ret_ (vs := [.bool _]) rfl Try.func10 rfl (.nil _) ⟨rfl, trivial⟩ ?_))))
       exact ⟨vbool_eq (prove_4 hkR (by simpa using g36)).symm, Ext.of_below hB⟩
      ·
       replace hc16 := nf hc16
       have g36 := hc16
       refine r_skip (r_inBlock (r_region' (l_q (q_add rfl rfl (by omega) rfl) (l_q (qmi rfl rfl) (l_nil ?_)))))
       exact ih11 (k + 1) _ _ ⟨⟨rfl, rfl, rfl, by first | rfl | exact vint_eq (by omega), trivial⟩, (by omega), (fun i hi => by rcases Nat.lt_succ_iff_lt_or_eq.1 hi with h | h; exact hno i h; subst h; simpa using g36), hb1, hsz, hB⟩ (by first | omega | (dsimp only; omega))
     ·
      replace hc12 := dlt hc12
      refine r_exit rfl (r_seq (r_region' (l_q (qab rfl rfl) (l_nil (r_ret_ (vs := [.bool _]) rfl Try.func10 rfl (.nil _) ⟨rfl, trivial⟩ ?_)))))
      exact ⟨vbool_eq (prove_5 hp (by simpa using g19) g24 (fun k2 hk2 => hno k2 (by omega))).symm, Ext.of_below hB⟩
theorem enough_ret (na : Option Addr) (nc : Nat) (nd : List Int) (pa : Option Addr) (pc : Nat) (pl : List PV) (ca : Option Addr) (cc : Nat) (L : List SV) (w : World) (hpo : PoAt w na nc nd pa pc pl ca cc L) (hnl : nd.length ≤ 2097152) (hpll : pl.length ≤ 2097152) (hLl : L.length ≤ 2097152) (hLs : ∀ s ∈ L, s.xs.length ≤ 2097152) : Ret Try.prog 11 [.agg ⟨[.slice na nd.length nc, .slice pa pl.length pc, .slice ca L.length cc]⟩] w (fun v w' => ∃ ra rc, v = .tuple ⟨[.slice ra (enoughR nd pl L).2.length rc, vint (enoughR nd pl L).1]⟩ ∧ Row w' ra (enoughR nd pl L).2.length rc 1 ((enoughR nd pl L).2.map vint) ∧ Ext w w') := by
 have hB := Below.refl w.heap.size w
 have hsz : w.heap.size ≤ w.heap.size := Nat.le_refl _
 refine ret_of_runs (args := [_]) Try.func11 rfl (Nat.le_of_ble_eq_true rfl) (by kernel_rfl) (r_seq (r_region' (l_o (o_box rfl rfl rfl ?_))))
 intro b1 w1 hzl1 hzr1 _ hb1 hE1
 have hbs_b1 : w.heap.size ≤ b1 := Nat.le_trans hsz hzl1
 replace hB := below_ext hB hE1 hsz
 replace hsz := Nat.le_trans hsz hE1.size
 refine l_q (qas rfl rfl) (l_q (qai rfl rfl) (l_nil (r_scope (r_seq (r_seq (r_region' (l_q (q_load_agg (n := 3) Try.isAgg29 Try.sizeOf29 rfl ((hb1.cells' (cs' := [_, _, _]) 0 3 rfl)) rfl rfl) (l_o (o_call Try.call13 rfl (checkPost_ret na nc nd pa pc pl ca cc L _ (hpo.below hB) hnl hpll hLl hLs) rfl ?_)))))))))
 rintro _ w2 ⟨rfl, hE2⟩
 replace hB := below_ext hB hE2 hsz
 replace hb1 := hb1.ext hE2
 replace hsz := Nat.le_trans hsz hE2.size
 refine l_q (qai rfl rfl) (l_nil (r_seq (r_region' (l_q (qmi rfl rfl) (l_q (q_neq rfl rfl rfl) (l_nil (r_cond rfl (fun hc3 => ?_) (fun hc3 => ?_))))))))
 ·
  replace hc3 := df (nt hc3)
  have hp := hc3
  refine r_seq (r_region' (l_q (qmi rfl rfl) (l_q (qas rfl rfl) (l_q (qai rfl rfl) (l_nil (r_ret_ (vs := [.slice _ _ _, .int _ _]) rfl Try.func11 rfl (.nil _) ⟨rfl, rfl, trivial⟩ ?_))))))
  exact ⟨none, 0, by rw [enough_e hp]; rfl, by rw [enough_e hp]; exact Row.nil _ _ _ _, Ext.of_below hB⟩
 ·
  replace hc3 := dt (nf hc3)
  have hok : faultP (po nd pl L) = 0 := by simpa using hc3
  obtain ⟨⟨hn1, hn5⟩, ⟨hp1, hp4⟩, hL4, hnn, hpp, hLL⟩ := po_ok hok
  refine r_skip (r_seq (r_region' (l_q (qas rfl rfl) (l_nil (r_seq (r_region' (l_q (qai rfl rfl) (l_nil (r_seq (r_label (r_seq (r_seq (r_region' (l_q (q_load_agg (n := 3) Try.isAgg29 Try.sizeOf29 rfl ((hb1.cells' (cs' := [_, _, _]) 0 3 rfl)) rfl rfl) (l_o (o_call Try.call16 rfl (everybody_ret na nc nd pa pc pl ca cc L _ (by omega)) rfl ?_))))))))))))))))
  rintro _ w4 ⟨a4_0, c4_0, rfl, ho4_0, hE4⟩
  replace ho4_0 := own_mono ho4_0 (show w.heap.size ≤ _ by omega)
  replace hB := below_ext hB hE4 hsz
  replace hb1 := hb1.ext hE4
  replace hsz := Nat.le_trans hsz hE4.size
  refine l_o (o_call Try.call32 rfl (lists_ret _ _ (upTo pl.length) _ (Row.of_owns ho4_0) (by rw [upTo_len]; omega) (by rw [upTo_len]; omega)) rfl ?_)
  rintro _ w5 ⟨oa, oc, S, rfl, hS, hSr, hSx, hfo, hfs, hE5⟩
  replace hB := below_ext hB hE5 hsz
  replace hb1 := hb1.ext hE5
  replace ho4_0 := own_ext ho4_0 hE5
  replace hsz := Nat.le_trans hsz hE5.size
  have hSl := lists_mem4 hSx (by omega)
  have hSm := lists_sm hSx (by rw [upTo_len]; omega)
  refine l_q (q_len rfl Try.underlying22 rfl rfl) (l_q (qmi rfl rfl) (l_nil (r_forget [(1, .pointer _), (5, .slice _ _ _), (6, .int _ _), (16, .slice _ _ _), (17, .int _ _), (18, .int _ _)] ⟨rfl, rfl, rfl, rfl, rfl, rfl, trivial⟩ (fun e6 => (r_block (r_rounds (α := Nat) (fun k e wl => Knows e [(1, ptr b1 0), (5, .slice none 0 0), (6, vint 10), (16, .slice oa S.length oc), (17, vint (S.length : Int)), (18, vint (k : Int))] ∧ (k ≤ S.length) ∧ (∀ k2, k2 < k → canP nd pl (L.map (·.xs)) (S.getD k2 sv0).xs = false) ∧ (Blk wl b1 [.slice na nd.length nc, .slice pa pl.length pc, .slice ca L.length cc]) ∧ (wl.ownsRow w.heap.size 3 1 (.slice a4_0 ((upTo pl.length).length) c4_0) ((upTo pl.length).length) ((upTo pl.length).map vint)) ∧ (Row wl oa S.length oc 1 (S.map SV.enc)) ∧ (RowsI wl S) ∧ (w.heap.size ≤ wl.heap.size) ∧ (Below w.heap.size w wl)) (fun k => S.length - k) 0 ?_ ?_))))))
  ·
   exact ⟨⟨rfl, rfl, rfl, rfl, rfl, rfl, trivial⟩, (Nat.zero_le _), (fun i hi => absurd hi (Nat.not_lt_zero _)), hb1, ho4_0, hS, hSr, hsz, hB⟩
  ·
   rintro k el7 wl7 ⟨hkn, hkk, hno, hb1, ho4_0, hS, hSr, hsz, hB⟩ ih7
   obtain ⟨e7, rfl⟩ := knows_env hkn
   refine r_seq (r_region' (l_q (q_lss rfl rfl rfl) (l_nil (r_seq (r_cond rfl (fun hc8 => ?_) (fun hc8 => ?_))))))
   ·
    replace hc8 := dt hc8
    have hkS : k < S.length := by omega
    have hSk := hSl _ (getD_lt (l := S) (d := sv0) hkS)
    refine r_skip (r_seq (r_block (r_seq (r_region' ?_))))
    obtain ⟨b9, o9, ha9, hh9⟩ := hS.at1 k ((S).getD k sv0) (getD_some (by omega))
    refine l_q (q_indexAddr1 Try.underlying22 Try.sizeOf26 rfl ha9 rfl (by omega) rfl) (l_q (q_load Try.isAgg26 rfl (hh9) rfl) (l_q (qas rfl rfl) (l_nil (r_seq (r_region' (l_q (q_load_agg (n := 3) Try.isAgg29 Try.sizeOf29 rfl ((hb1.cells' (cs' := [_, _, _]) 0 3 rfl)) rfl rfl) (l_q (qms rfl rfl) ?_)))))))
    have hlw_b1 := hb1.lt
    refine l_o (o_call Try.call15 rfl (work_ret na nc nd pa pc pl ca cc L _ _ (((S).getD k sv0).xs) _ (RowsI.get (hSr) (i := k) (by omega)) (by omega) (by omega)) rfl ?_)
    rintro _ w10 ⟨wb10, m10, woa10, woc10, WS10, rfl, hbw10, hbm10, hM10, hwb10, hWS10, hWSr10, hWSx10, hfo10, hfs10, hE10⟩
    have hbs_wb10 : w.heap.size ≤ wb10 := Nat.le_trans hsz hbw10
    have hbs_m10 : w.heap.size ≤ m10 := Nat.le_trans hsz hbm10
    replace hB := below_ext hB hE10 hsz
    replace hb1 := hb1.ext hE10
    replace ho4_0 := own_ext ho4_0 hE10
    replace hS := hS.ext hE10
    replace hSr := hSr.ext hE10
    replace hsz := Nat.le_trans hsz hE10.size
    have hmW10 := hM10.lt
    have hwW10 := hwb10.lt
    have hMw := hM10
    have hWT10 := hWS10
    have hWTr10 := hWSr10
    have hszW := Nat.le_refl w10.heap.size
    refine l_o (o_call Try.call18 rfl (begun_ret _) rfl ?_)
    rintro _ w11 ⟨rfl, hE11⟩
    replace hB := below_ext hB hE11 hsz
    replace hb1 := hb1.ext hE11
    replace ho4_0 := own_ext ho4_0 hE11
    replace hS := hS.ext hE11
    replace hSr := hSr.ext hE11
    replace hMw := hMw.keep (hE11.block m10 hMw.lt (by simp))
    replace hszW := Nat.le_trans hszW hE11.size
    replace hWS10 := hWS10.ext hE11
    replace hWSr10 := hWSr10.ext hE11
    replace hwb10 := hwb10.ext hE11
    replace hsz := Nat.le_trans hsz hE11.size
    refine l_q (q_build (v := .agg ⟨((0 : Int) :: stood0).map vint⟩) (spot_build (rfl)) rfl) (l_o (o_call Try.call17 rfl (rfew_ret hok (lists_sm hWSx10 (by omega)) (lists_on hWSx10 (by omega) hSk.2) _ 0 stood0 _ _ _ (Nat.le_refl _) (Nat.zero_le _) rfl stood0_b ⟨hpo.below hB, hwb10, hWS10, hWSr10⟩ hMw smemo_nil) rfl ?_))
    rintro _ w12 ⟨rfl, esc12, ckc12, hMc12, hMm12, hGc12⟩
    replace hB := below_upd hB hGc12 hsz hbs_m10
    replace hsz := Nat.le_trans hsz hGc12.size
    replace hb1 := hb1.gm hMw hGc12
    replace ho4_0 := own_gm ho4_0 hMw hGc12
    replace hS := hS.gm hMw hGc12
    replace hSr := hSr.gm hMw hGc12
    replace hszW := Nat.le_trans hszW hGc12.size
    have hWe := hWSx10
    refine l_q (q_lss rfl rfl rfl) (l_nil (r_cond rfl (fun hc13 => ?_) (fun hc13 => ?_)))
    ·
     replace hc13 := dt hc13
     have hcan : canP nd pl (L.map (·.xs)) (S.getD k sv0).xs = true := decide_eq_true (by rw [hWe] at hc13; exact hc13)
     refine r_seq (r_region' (l_q (qms rfl rfl) (l_o (o_call Try.call21 rfl (clone_ret _ _ (((S).getD k sv0).xs) _ (RowsI.get (hSr) (i := k) (by omega)) (by omega)) rfl ?_))))
     rintro _ w14 ⟨a14_0, c14_0, rfl, ho14_0, hE14⟩
     replace ho14_0 := own_mono ho14_0 (show w.heap.size ≤ _ by omega)
     replace hB := below_ext hB hE14 hsz
     replace hb1 := hb1.ext hE14
     replace ho4_0 := own_ext ho4_0 hE14
     replace hS := hS.ext hE14
     replace hSr := hSr.ext hE14
     replace hszW := Nat.le_trans hszW hE14.size
     replace hsz := Nat.le_trans hsz hE14.size
     refine l_q (qas rfl rfl) (l_q (qai rfl rfl) (l_nil (r_forget [(5, .slice _ _ _), (6, .int _ _)] ⟨rfl, rfl, trivial⟩ (fun e15 => (r_exit rfl (r_seq (r_region' (l_q (qms rfl rfl) (l_q (qmi rfl rfl) (l_q (qas rfl rfl) (l_q (qai rfl rfl) (l_nil (r_ret_ (vs := [.slice _ _ _, .int _ _]) rfl Try.func11 rfl (.nil _) ⟨rfl, rfl, trivial⟩ ?_)))))))))))))
     exact ⟨_, _, by rw [enough_yes hok hSx hkS hcan hno]; rfl, by rw [enough_yes hok hSx hkS hcan hno]; exact (Row.of_owns ho14_0), Ext.of_below hB⟩
    ·
     replace hc13 := dlt hc13
     have hcan : canP nd pl (L.map (·.xs)) (S.getD k sv0).xs = false := decide_eq_false (by rw [hWe] at hc13; exact Int.not_lt.2 hc13)
     refine r_skip (r_inBlock (r_region' (l_q (q_add rfl rfl (by omega) rfl) (l_q (qmi rfl rfl) (l_nil (r_forget [(1, .pointer _), (5, .slice _ _ _), (6, .int _ _), (16, .slice _ _ _), (17, .int _ _), (18, .int _ _)] ⟨rfl, rfl, rfl, rfl, rfl, rfl, trivial⟩ (fun e16 => ?_)))))))
     exact ih7 (k + 1) _ _ ⟨⟨rfl, by first | rfl | exact vint_eq (by omega), by first | rfl | exact vint_eq (by omega), rfl, rfl, by first | rfl | exact vint_eq (by omega), trivial⟩, (by omega), (fun i hi => by rcases Nat.lt_succ_iff_lt_or_eq.1 hi with h | h; exact hno i h; subst h; exact hcan), hb1, ho4_0, hS, hSr, hsz, hB⟩ (by first | omega | (dsimp only; omega))
   ·
    replace hc8 := dlt hc8
    refine r_exit rfl (r_seq (r_region' (l_q (qms rfl rfl) (l_q (qmi rfl rfl) (l_q (qas rfl rfl) (l_q (qai rfl rfl) (l_nil (r_ret_ (vs := [.slice _ _ _, .int _ _]) rfl Try.func11 rfl (.nil _) ⟨rfl, rfl, trivial⟩ ?_))))))))
    exact ⟨none, 0, by rw [enough_no hok hSx (fun j hj => hno j (by omega))]; rfl, by rw [enough_no hok hSx (fun j hj => hno j (by omega))]; exact Row.nil _ _ _ _, Ext.of_below hB⟩
end Go.Proofs.Ytbikicakdkbcgaa
