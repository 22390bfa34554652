/- Contracts. -/
import Derived.Test.YtekkdhpgcilpdaaGreatM9
set_option linter.unusedVariables false
set_option linter.unusedSimpArgs false
namespace Go.Proofs.YtekkdhpgcilpdaaGreat
open Go Go.RowKit Go.Gv Go.Fl
def posB (can : Nat → Int → Bool) (m r : Nat) (fal : Bool) (k : Nat) (p : List Int) (b : Int) : Bool := stepB can p b && ((!decide (p.length = r) || (decide (b = -1) == fal)) && possF can m r fal k (p ++ [b]))
section
variable {can : Nat → Int → Bool} {m r k k2 i n : Nat} {p xs : List Int} {fal : Bool} {b : Int}
theorem poss_yes (hi : i < m + 1) (h : posB can m r fal k p ((i : Int) - 1) = true) : possF can m r fal (k + 1) p = true := by
  rw [possF, List.any_eq_true]
  exact ⟨(i : Int) - 1, mem_bys.2 (by omega), h⟩
theorem poss_no (h : ∀ j, j < i → posB can m r fal k p ((j : Int) - 1) = false) (hi : m + 1 ≤ i) : possF can m r fal (k + 1) p = false := by
  rw [possF, List.any_eq_false]
  intro b hb
  obtain ⟨h1, h2⟩ := mem_bys.1 hb
  have h3 := h (b + 1).toNat (by omega)
  rw [show (((b + 1).toNat : Nat) : Int) - 1 = b by omega] at h3
  have h4 : posB can m r fal k p b = false := h3
  unfold posB at h4
  rw [h4]; decide
theorem pos_n1 (h : stepB can p b = false) : posB can m r fal k p b = false := by unfold posB; rw [h]; rfl
theorem pos_n2 (h1 : (p.length : Int) = (r : Int)) (h2 : decide (b = -1) = !fal) : posB can m r fal k p b = false := by unfold posB; rw [decide_eq_true (by omega : p.length = r), h2]; cases fal <;> simp
theorem pos_n3 (h : possF can m r fal k (p ++ [b]) = false) : posB can m r fal k p b = false := by unfold posB; rw [h]; simp
theorem pos_y1 (h1 : stepB can p b = true) (h2 : ¬ (p.length : Int) = (r : Int)) (h3 : possF can m r fal k (p ++ [b]) = true) : posB can m r fal k p b = true := by unfold posB; rw [h1, h3, decide_eq_false (by omega : ¬ p.length = r)]; rfl
theorem pos_y2 (h1 : stepB can p b = true) (h2 : decide (b = -1) = fal) (h3 : possF can m r fal k (p ++ [b]) = true) : posB can m r fal k p b = true := by unfold posB; rw [h1, h3, h2]; simp
end
def verdW (l : Lg) : List Int × Int := if ¬ faultM l = 0 then ([], faultM l) else if (List.range l.R.length).any (fun r => !(ownV l r || falV l r)) = true then ([], 11) else ((List.range l.R.length).map (verdV l), 0)
section
variable {co : List Sg} {er : Int} {se : List Int} {sl : List SN} {rl : List RC} {k : Nat} {l : Lg}
theorem verdW_f (h : ¬ faultM l = 0) : verdW l = ([], faultM l) := by unfold verdW; rw [if_pos h]
theorem verdW_11 (h : faultM l = 0) (hk : k < l.R.length) (h1 : ownV l k = false) (h2 : falV l k = false) : verdW l = ([], 11) := by
  unfold verdW
  rw [if_neg (fun h3 => h3 h), if_pos (List.any_eq_true.2 ⟨k, List.mem_range.2 hk, by rw [h1, h2]; rfl⟩)]
theorem verdW_ok (h : faultM l = 0) (hk : k = l.R.length) (hno : ∀ j, j < k → (ownV l j || falV l j) = true) : verdW l = ((List.range k).map (verdV l), 0) := by
  subst hk
  unfold verdW
  rw [if_neg (fun h3 => h3 h), if_neg]
  intro h1
  obtain ⟨j, hj, h2⟩ := List.any_eq_true.1 h1
  rw [hno j (List.mem_range.1 hj)] at h2
  cases h2
theorem verd_3 (h1 : ownV l k = true) (h2 : falV l k = true) : verdV l k = 3 := by unfold verdV; rw [h1, h2]; rfl
theorem verd_1 (h1 : ownV l k = true) (h2 : falV l k = false) : verdV l k = 1 := by unfold verdV; rw [h1, h2]; rfl
theorem verd_2 (h1 : ownV l k = false) : verdV l k = 2 := by unfold verdV; rw [h1]; rfl
theorem verd_snoc {p : List Int} {x : Int} (hp : p = (List.range k).map (verdV l)) (hx : verdV l k = x) : p ++ [x] = (List.range (k + 1)).map (verdV l) := by
  rw [List.range_succ, List.map_append, ← hp, List.map_cons, hx]; rfl
theorem ownV_eq : ownV (lg co er se sl rl) k = possF (canB (lg co er se sl rl)) sl.length k false rl.length [] := by unfold ownV; rw [lgJ]; rfl
theorem falV_eq : falV (lg co er se sl rl) k = possF (canB (lg co er se sl rl)) sl.length k true rl.length [] := by unfold falV; rw [lgJ]; rfl
end
def provM (l : Lg) (xs : List Int) : Bool := decide (faultM l = 0 ∧ xs ∈ allF (canB l) l.J.length noB l.R.length [])
section
variable {co : List Sg} {er : Int} {se : List Int} {sl : List SN} {rl : List RC} {n : Nat} {xs : List Int} {u : List Bool} {l : Lg}
theorem prov_f (h : ¬ faultM l = 0) : provM l xs = false := decide_eq_false (fun h1 => h h1.1)
theorem prov_len (h : ¬ xs.length = l.R.length) : provM l xs = false := decide_eq_false (fun h1 => h (by have := all_len h1.2; simpa using this))
theorem prov_iff (h : faultM (lg co er se sl rl) = 0) (hl : xs.length = rl.length) : provM (lg co er se sl rl) xs = true ↔ ∀ r, r < xs.length → okAt (canB (lg co er se sl rl)) sl.length noB xs r := by
  unfold provM
  rw [decide_eq_true_eq, mem_all, lgJ, lgR]
  constructor
  · rintro ⟨_, _, _, h4⟩; exact fun r hr => h4 r (Nat.zero_le _) hr
  · exact fun h4 => ⟨h, by simp, by simpa using hl, fun r _ hr => h4 r hr⟩
theorem okAt_noB {can : Nat → Int → Bool} {m : Nat} : okAt can m noB xs n ↔ xs.getD n 0 ∈ bys m ∧ stepB can (xs.take n) (xs.getD n 0) = true := by
  unfold okAt; rw [if_neg (by unfold noB; decide)]
theorem prov_no (h : faultM (lg co er se sl rl) = 0) (hl : xs.length = rl.length) (hn : n < xs.length) (ho : ¬ okAt (canB (lg co er se sl rl)) sl.length noB xs n) : provM (lg co er se sl rl) xs = false := by
  rw [Bool.eq_false_iff]
  exact fun h1 => ho ((prov_iff h hl).1 h1 n hn)
end


theorem poss6_step (ka : Option Addr) (kc : Nat) (co : List Sg) (er : Int) (sa : Option Addr) (sc : Nat) (se : List Int) (ja : Option Addr) (jc : Nat) (sl : List SN) (ra : Option Addr) (rc : Nat) (rl : List RC) (wb m1 m2 : Nat) (R : List SV) (b2 b3 b4 b5 r : Nat) (fal : Bool) (p : List Int) (u : List Bool) (k : Nat) (w : World) (hok : faultM (lg co er se sl rl) = 0) (hq2 : Blk w b2 [ptr wb 0]) (hq3 : Blk w b3 [vint (r : Int)]) (hq4 : Blk w b4 [.bool fal]) (hq5 : Blk w b5 [.func (.func 109) ⟨[]⟩ ⟨[ptr b2 0, ptr b3 0, ptr b4 0, ptr b5 0]⟩]) (hwb : Blk w wb [.slice ka co.length kc, vint er, .slice sa se.length sc, .slice ja sl.length jc, .slice ra rl.length rc, .map (some m1), .map (some m2)]) (hWm : WkMaps w m1 m2 R (rl.map (candL (lg co er se sl rl)))) (hpk : p.length + k = rl.length) (hub : UsedBy p u) (ih : ∀ (k2 : Nat) (p2 : List Int) (u2 : List Bool) (w1 : World), k = k2 + 1 → p2.length + k2 = rl.length → UsedBy p2 u2 → Blk w1 b2 [ptr wb 0] → Blk w1 b3 [vint (r : Int)] → Blk w1 b4 [.bool fal] → Blk w1 b5 [.func (.func 109) ⟨[]⟩ ⟨[ptr b2 0, ptr b3 0, ptr b4 0, ptr b5 0]⟩] → Blk w1 wb [.slice ka co.length kc, vint er, .slice sa se.length sc, .slice ja sl.length jc, .slice ra rl.length rc, .map (some m1), .map (some m2)] → WkMaps w1 m1 m2 R (rl.map (candL (lg co er se sl rl))) → Ret Tryz.prog 109 [vint (p2.length : Int), .agg ⟨u2.map Value.bool⟩, ptr b2 0, ptr b3 0, ptr b4 0, ptr b5 0] w1 (fun v w2 => v = .bool (possF (canB (lg co er se sl rl)) sl.length r fal k2 p2) ∧ Ext w1 w2)) : Ret Tryz.prog 109 [vint (p.length : Int), .agg ⟨(u).map Value.bool⟩, ptr b2 0, ptr b3 0, ptr b4 0, ptr b5 0] w (fun v w' => v = .bool (possF (canB (lg co er se sl rl)) sl.length r fal k p) ∧ Ext w w') := by
 have hq2l := hq2.lt
 have hq3l := hq3.lt
 have hq4l := hq4.lt
 have hq5l := hq5.lt
 have hwbl := hwb.lt
 obtain ⟨⟨hs1, hs4⟩, hj8, hr6, hf0, ⟨he0, he3⟩, hsr, hJn, hRn⟩ := lg_ok hok
 have hj8 : sl.length ≤ 8 := by have h : (lg co er se sl rl).J.length ≤ 8 := hj8; rwa [lgJ] at h
 have hr6 : rl.length ≤ 6 := by have h : (lg co er se sl rl).R.length ≤ 6 := (by omega); exact h
 have hB := Below.refl w.heap.size w
 have hsz : w.heap.size ≤ w.heap.size := Nat.le_refl _
 refine ret_of_runs (args := [_, _, _, _, _, _]) Tryz.func109 rfl (Nat.le_of_ble_eq_true rfl) (by kernel_rfl) (r_seq (r_region' (l_o (o_box rfl rfl rfl ?_))))
 intro b1 w1 hzl1 hzr1 _ hb1 hE1
 have hne_b2_b1 : b2 ≠ b1 := by have := hq2.lt; omega
 have hne_b3_b1 : b3 ≠ b1 := by have := hq3.lt; omega
 have hne_b4_b1 : b4 ≠ b1 := by have := hq4.lt; omega
 have hne_b5_b1 : b5 ≠ b1 := by have := hq5.lt; omega
 have hne_wb_b1 : wb ≠ b1 := by have := hwb.lt; omega
 have hbs_b1 : w.heap.size ≤ b1 := Nat.le_trans hsz hzl1
 replace hB := below_ext hB hE1 hsz
 replace hsz := Nat.le_trans hsz hE1.size
 refine l_q (qab rfl rfl) (l_nil (r_seq (r_seq (r_region' (l_q (qmi rfl rfl) (l_q (q_load Tryz.isAgg97 rfl (((hq2.below hB (by omega)).has (o := 0) rfl)) rfl) (l_q (q_nilCheck rfl rfl) (l_q (q_fieldAddr (o' := 0) rfl fld96_0 rfl) (l_q (q_fieldAddr (o' := 4) rfl fld38_4 rfl) (l_q (q_load Tryz.isAgg36 rfl (((hwb.below hB (by omega)).has (o := 4) rfl)) rfl) (l_q (q_len rfl Tryz.underlying36 rfl rfl) (l_q (q_eql rfl rfl rfl) (l_nil (r_cond rfl (fun hc2 => ?_) (fun hc2 => ?_)))))))))))))))
 ·
  replace hc2 := dt hc2
  have hk0 : k = 0 := by omega
  refine r_seq (r_region' (l_q (qab rfl rfl) (l_nil (r_forget [(8, .bool _)] ⟨rfl, trivial⟩ (fun e3 => (r_ret_ (vs := [.bool _]) rfl Tryz.func109 rfl (.nil _) ⟨rfl, trivial⟩ ?_))))))
  exact ⟨by rw [hk0]; rfl, Ext.of_below hB⟩
 ·
  replace hc2 := df hc2
  obtain ⟨k2, hk2⟩ : ∃ k2, k = k2 + 1 := ⟨k - 1, by omega⟩
  refine r_skip (r_seq (r_seq (r_region' (l_q (qai rfl rfl) (l_nil (r_forget [(0, .int _ _), (2, .pointer _), (3, .pointer _), (4, .pointer _), (5, .pointer _), (7, .pointer _), (9, .int _ _)] ⟨rfl, rfl, rfl, rfl, rfl, rfl, rfl, trivial⟩ (fun e4 => (r_block (r_rounds (α := Nat) (fun i e wl => Knows e [(0, vint (p.length : Int)), (2, ptr b2 0), (3, ptr b3 0), (4, ptr b4 0), (5, ptr b5 0), (7, ptr b1 0), (9, vint ((i : Int) - 1))] ∧ (i ≤ sl.length + 1) ∧ (∀ j, j < i → posB (canB (lg co er se sl rl)) sl.length r fal k2 p ((j : Int) - 1) = false) ∧ (Blk wl b1 ((u).map Value.bool)) ∧ (w.heap.size ≤ wl.heap.size) ∧ (Below w.heap.size w wl)) (fun i => sl.length + 1 - i) 0 ?_ ?_)))))))))
  ·
   exact ⟨⟨rfl, rfl, rfl, rfl, rfl, rfl, rfl, trivial⟩, (by omega), (fun i hi => absurd hi (Nat.not_lt_zero _)), hb1, hsz, hB⟩
  ·
   rintro i el5 wl5 ⟨hkn, him1, hno, hb1, hsz, hB⟩ ih5
   obtain ⟨e5, rfl⟩ := knows_env hkn
   refine r_seq (r_seq (r_region' (l_q (qmi rfl rfl) (l_q (q_load Tryz.isAgg97 rfl (((hq2.below hB (by omega)).has (o := 0) rfl)) rfl) (l_q (q_nilCheck rfl rfl) (l_q (q_fieldAddr (o' := 0) rfl fld96_0 rfl) (l_q (q_fieldAddr (o' := 3) rfl fld38_3 rfl) (l_q (q_load Tryz.isAgg35 rfl (((hwb.below hB (by omega)).has (o := 3) rfl)) rfl) (l_q (q_len rfl Tryz.underlying35 rfl rfl) (l_q (q_lss rfl rfl rfl) (l_nil (r_cond rfl (fun hc6 => ?_) (fun hc6 => ?_)))))))))))))
   ·
    replace hc6 := dt hc6
    have him : i < sl.length + 1 := by omega
    have hst := free_step (l := (lg co er se sl rl)) (p := p) (u := u) (b := ((i : Int) - 1)) (show p.length < rl.length by omega) ⟨by omega, by rw [lgJ]; omega⟩ (by rw [lgJ]; omega) hub
    refine r_skip (r_seq (r_block (r_seq (r_region' (l_q (q_load Tryz.isAgg97 rfl (((hq2.below hB (by omega)).has (o := 0) rfl)) rfl) (l_q (qmi rfl rfl) (l_q (qmi rfl rfl) (l_q (q_load_agg (n := 8) Tryz.isAgg106 Tryz.sizeOf106 rfl ((hb1.cells0)) (by rw [List.length_map]; exact hub.1) rfl) (l_o (o_call Tryz.call78 rfl (free6_ret ka kc co er sa sc se ja jc sl ra rc rl wb m1 m2 R (rl.map (candL (lg co er se sl rl))) (p.length : Int) ((i : Int) - 1) u _ (hwb.below hB hwbl) (hWm.below hB) hub.1 (by omega)) rfl ?_))))))))))
    rintro _ w7 ⟨rfl, hE7⟩
    replace hB := below_ext hB hE7 hsz
    replace hb1 := hb1.ext hE7
    replace hsz := Nat.le_trans hsz hE7.size
    refine l_q (q_move (v := .tuple _) rfl rfl) (l_q (q_extract (vs := [_, _]) (v := .agg _) rfl rfl rfl) (l_q (q_extract (vs := [_, _]) (v := .bool _) rfl rfl rfl) (l_o (o_alloc Tryz.zeroValue106 rfl rfl ?_))))
    intro b8 w8 hzl8 hzr8 _ hb8 hE8
    have hne_b2_b8 : b2 ≠ b8 := by have := hq2.lt; omega
    have hne_b3_b8 : b3 ≠ b8 := by have := hq3.lt; omega
    have hne_b4_b8 : b4 ≠ b8 := by have := hq4.lt; omega
    have hne_b5_b8 : b5 ≠ b8 := by have := hq5.lt; omega
    have hne_wb_b8 : wb ≠ b8 := by have := hwb.lt; omega
    have hne_b1_b8 : b1 ≠ b8 := by have := hb1.lt; omega
    have hbs_b8 : w.heap.size ≤ b8 := Nat.le_trans hsz hzl8
    replace hB := below_ext hB hE8 hsz
    replace hb1 := hb1.ext hE8
    replace hsz := Nat.le_trans hsz hE8.size
    refine l_o (o_store_all (cs' := (freeU (rl.map (candL (lg co er se sl rl))) (p.length : Int) ((i : Int) - 1) u).map Value.bool) Tryz.sizeOf106 rfl rfl hb8 (rfl) (by rw [List.length_map]; exact freeU_len hub.1) (all_one_map _ _ (fun _ => rfl)) rfl ?_)
    intro w9 hz9 hb8 hG9
    replace hB := below_upd hB hG9 hsz (by omega)
    replace hsz : w.heap.size ≤ w9.heap.size := by rw [hz9]; exact hsz
    replace hb1 := hb1.upd hG9 (by omega)
    refine l_q (qab rfl rfl) (l_nil (r_forget [(0, .int _ _), (2, .pointer _), (3, .pointer _), (4, .pointer _), (5, .pointer _), (7, .pointer _), (9, .int _ _), (10, .pointer _), (11, .bool _)] ⟨rfl, rfl, rfl, rfl, rfl, rfl, rfl, rfl, rfl, trivial⟩ (fun e10 => (r_seq (r_region' (l_q (qmb rfl rfl) (l_q (qmb rfl rfl) (l_part 39 rfl (fun hc11 => ?_) (fun hc11 => ?_)))))))))
    ·
     have hfo := hc11
     have hsy : stepB (canB (lg co er se sl rl)) p ((i : Int) - 1) = true := hst.symm.trans hc11
     refine l_q (qmi rfl rfl) (l_q (q_load Tryz.isAgg3 rfl (((hq3.below hB (by omega)).has (o := 0) rfl)) rfl) (l_q (q_neq rfl rfl rfl) (l_q (qmb rfl rfl) (l_part 43 rfl (fun hc12 => ?_) (fun hc12 => ?_)))))
     ·
      replace hc12 := df (nt hc12)
      have g43 : ¬ (p.length : Int) = (r : Int) := by have := hc12; simpa using this
      refine l_q (q_skip rfl) (l_q (q_skip rfl) (l_q (q_skip rfl) (l_q (q_skip rfl) (l_q (q_pick_t (v := .bool _) rfl rfl rfl) (l_q (q_pick_t (v := .bool _) rfl rfl rfl) (l_q (qmb rfl rfl) (l_q (q_load Tryz.isAgg144 rfl (((hq5.below hB (by omega)).has (o := 0) rfl)) rfl) (l_q (qmi rfl rfl) (l_q (q_add rfl rfl (by omega) rfl) (l_q (q_load_agg (n := 8) Tryz.isAgg106 Tryz.sizeOf106 rfl ((hb8.cells0)) (by rw [List.length_map]; exact freeU_len hub.1) rfl) ?_))))))))))
      have hih := ih k2 (p ++ [((i : Int) - 1)]) (freeU (rl.map (candL (lg co er se sl rl))) (p.length : Int) ((i : Int) - 1) u) w9 hk2 (by simp only [List.length_append, List.length_cons, List.length_nil]; omega) (free_used (by omega) hub hfo) (hq2.below hB hq2l) (hq3.below hB hq3l) (hq4.below hB hq4l) (hq5.below hB hq5l) (hwb.below hB hwbl) (hWm.below hB)
      have hcast : (((p ++ [((i : Int) - 1)]).length : Nat) : Int) = (p.length : Int) + 1 := by simp
      rw [hcast] at hih
      refine l_o (o_callv (f := 109) (fst := []) (cap := [_, _, _, _]) rfl Tryz.call109 rfl (hih) rfl ?_)
      rintro _ w13 ⟨rfl, hE13⟩
      replace hB := below_ext hB hE13 hsz
      replace hb1 := hb1.ext hE13
      replace hb8 := hb8.ext hE13
      replace hsz := Nat.le_trans hsz hE13.size
      refine l_q (q_pick_t (v := .bool _) rfl rfl rfl) (l_nil (r_forget [(0, .int _ _), (2, .pointer _), (3, .pointer _), (4, .pointer _), (5, .pointer _), (7, .pointer _), (9, .int _ _), (56, .bool _)] ⟨rfl, rfl, rfl, rfl, rfl, rfl, rfl, rfl, trivial⟩ (fun e14 => (r_cond rfl (fun hc15 => ?_) (fun hc15 => ?_)))))
      ·
       have g56 := hc15
       refine r_seq (r_region' (l_q (qab rfl rfl) (l_nil (r_ret_ (vs := [.bool _]) rfl Tryz.func109 rfl (.nil _) ⟨rfl, trivial⟩ ?_))))
       exact ⟨vbool_eq (by rw [hk2]; exact (poss_yes him (pos_y1 hsy g43 g56)).symm), Ext.of_below hB⟩
      ·
       have g56 := hc15
       refine r_skip (r_inBlock (r_region' (l_q (qmi rfl rfl) (l_q (q_add rfl rfl (by omega) rfl) (l_q (qai rfl rfl) (l_nil ?_))))))
       exact ih5 (i + 1) _ _ ⟨⟨rfl, rfl, rfl, rfl, rfl, rfl, (vint_eq (by omega)), trivial⟩, (by omega), (fun j hj => by rcases Nat.lt_succ_iff_lt_or_eq.1 hj with h | h; exact hno j h; subst h; exact pos_n3 g56), hb1, hsz, hB⟩ (by first | omega | (dsimp only; omega))
     ·
      replace hc12 := dt (nf hc12)
      have g43 : (p.length : Int) = (r : Int) := by have := hc12; simpa using this
      refine l_q (qmi rfl rfl) (l_q (q_eql rfl rfl rfl) (l_q (q_load Tryz.isAgg4 rfl (((hq4.below hB (by omega)).has (o := 0) rfl)) rfl) (l_q (q_eql_bool Tryz.underlying4 rfl rfl rfl) (l_q (q_pick_f (v := .bool _) rfl rfl rfl) (l_q (q_pick_t (v := .bool _) rfl rfl rfl) (l_q (qmb rfl rfl) (l_part 50 rfl (fun hc16 => ?_) (fun hc16 => ?_))))))))
      ·
       try simp only [decide_eq_true_eq, decide_eq_false_iff_not, Bool.not_eq_true', Bool.not_eq_false', Bool.not_not, Bool.not_true, Bool.not_false, Bool.not_eq_true, Bool.not_eq_false, Int.not_lt, Int.not_le, Bool.and_eq_true, Bool.or_eq_true, Bool.and_eq_false_iff, Bool.or_eq_false_iff] at hc16
       have g50 : decide (((i : Int) - 1) = -1) = fal := by have := hc16; simpa using this
       refine l_q (q_load Tryz.isAgg144 rfl (((hq5.below hB (by omega)).has (o := 0) rfl)) rfl) (l_q (qmi rfl rfl) (l_q (q_add rfl rfl (by omega) rfl) (l_q (q_load_agg (n := 8) Tryz.isAgg106 Tryz.sizeOf106 rfl ((hb8.cells0)) (by rw [List.length_map]; exact freeU_len hub.1) rfl) ?_)))
       have hih := ih k2 (p ++ [((i : Int) - 1)]) (freeU (rl.map (candL (lg co er se sl rl))) (p.length : Int) ((i : Int) - 1) u) w9 hk2 (by simp only [List.length_append, List.length_cons, List.length_nil]; omega) (free_used (by omega) hub hfo) (hq2.below hB hq2l) (hq3.below hB hq3l) (hq4.below hB hq4l) (hq5.below hB hq5l) (hwb.below hB hwbl) (hWm.below hB)
       have hcast : (((p ++ [((i : Int) - 1)]).length : Nat) : Int) = (p.length : Int) + 1 := by simp
       rw [hcast] at hih
       refine l_o (o_callv (f := 109) (fst := []) (cap := [_, _, _, _]) rfl Tryz.call109 rfl (hih) rfl ?_)
       rintro _ w17 ⟨rfl, hE17⟩
       replace hB := below_ext hB hE17 hsz
       replace hb1 := hb1.ext hE17
       replace hsz := Nat.le_trans hsz hE17.size
       refine l_q (q_pick_t (v := .bool _) rfl rfl rfl) (l_nil (r_forget [(0, .int _ _), (2, .pointer _), (3, .pointer _), (4, .pointer _), (5, .pointer _), (7, .pointer _), (9, .int _ _), (56, .bool _)] ⟨rfl, rfl, rfl, rfl, rfl, rfl, rfl, rfl, trivial⟩ (fun e18 => (r_cond rfl (fun hc19 => ?_) (fun hc19 => ?_)))))
       ·
        have g56 := hc19
        refine r_seq (r_region' (l_q (qab rfl rfl) (l_nil (r_ret_ (vs := [.bool _]) rfl Tryz.func109 rfl (.nil _) ⟨rfl, trivial⟩ ?_))))
        exact ⟨vbool_eq (by rw [hk2]; exact (poss_yes him (pos_y2 hsy g50 g56)).symm), Ext.of_below hB⟩
       ·
        have g56 := hc19
        refine r_skip (r_inBlock (r_region' (l_q (qmi rfl rfl) (l_q (q_add rfl rfl (by omega) rfl) (l_q (qai rfl rfl) (l_nil ?_))))))
        exact ih5 (i + 1) _ _ ⟨⟨rfl, rfl, rfl, rfl, rfl, rfl, (vint_eq (by omega)), trivial⟩, (by omega), (fun j hj => by rcases Nat.lt_succ_iff_lt_or_eq.1 hj with h | h; exact hno j h; subst h; exact pos_n3 g56), hb1, hsz, hB⟩ (by first | omega | (dsimp only; omega))
      ·
       try simp only [decide_eq_true_eq, decide_eq_false_iff_not, Bool.not_eq_true', Bool.not_eq_false', Bool.not_not, Bool.not_true, Bool.not_false, Bool.not_eq_true, Bool.not_eq_false, Int.not_lt, Int.not_le, Bool.and_eq_true, Bool.or_eq_true, Bool.and_eq_false_iff, Bool.or_eq_false_iff] at hc16
       have g50 : decide (((i : Int) - 1) = -1) = !fal := by have := hc16; cases fal <;> simp_all
       refine l_q (q_skip rfl) (l_q (q_skip rfl) (l_q (q_skip rfl) (l_q (q_skip rfl) (l_q (q_skip rfl) (l_q (q_pick_f (v := .bool _) rfl rfl rfl) (l_nil (r_forget [(0, .int _ _), (2, .pointer _), (3, .pointer _), (4, .pointer _), (5, .pointer _), (7, .pointer _), (9, .int _ _), (56, .bool _)] ⟨rfl, rfl, rfl, rfl, rfl, rfl, rfl, rfl, trivial⟩ (fun e20 => (r_cond_f rfl (r_skip (r_inBlock (r_region' (l_q (qmi rfl rfl) (l_q (q_add rfl rfl (by omega) rfl) (l_q (qai rfl rfl) (l_nil ?_))))))))))))))))
       exact ih5 (i + 1) _ _ ⟨⟨rfl, rfl, rfl, rfl, rfl, rfl, (vint_eq (by omega)), trivial⟩, (by omega), (fun j hj => by rcases Nat.lt_succ_iff_lt_or_eq.1 hj with h | h; exact hno j h; subst h; exact pos_n2 g43 g50), hb1, hsz, hB⟩ (by first | omega | (dsimp only; omega))
    ·
     have hsn : stepB (canB (lg co er se sl rl)) p ((i : Int) - 1) = false := hst.symm.trans hc11
     refine l_q (q_skip rfl) (l_q (q_skip rfl) (l_q (q_skip rfl) (l_q (q_skip rfl) (l_q (q_skip rfl) (l_q (q_skip rfl) (l_q (q_skip rfl) (l_q (q_skip rfl) (l_q (q_skip rfl) (l_q (q_pick_f (v := .bool _) rfl rfl rfl) (l_q (qmb rfl rfl) (l_q (q_skip rfl) (l_q (q_skip rfl) (l_q (q_skip rfl) (l_q (q_skip rfl) (l_q (q_skip rfl) (l_q (q_pick_f (v := .bool _) rfl rfl rfl) (l_nil (r_forget [(0, .int _ _), (2, .pointer _), (3, .pointer _), (4, .pointer _), (5, .pointer _), (7, .pointer _), (9, .int _ _), (56, .bool _)] ⟨rfl, rfl, rfl, rfl, rfl, rfl, rfl, rfl, trivial⟩ (fun e21 => (r_cond_f rfl (r_skip (r_inBlock (r_region' (l_q (qmi rfl rfl) (l_q (q_add rfl rfl (by omega) rfl) (l_q (qai rfl rfl) (l_nil ?_)))))))))))))))))))))))))))
     exact ih5 (i + 1) _ _ ⟨⟨rfl, rfl, rfl, rfl, rfl, rfl, (vint_eq (by omega)), trivial⟩, (by omega), (fun j hj => by rcases Nat.lt_succ_iff_lt_or_eq.1 hj with h | h; exact hno j h; subst h; exact pos_n1 hsn), hb1, hsz, hB⟩ (by first | omega | (dsimp only; omega))
   ·
    replace hc6 := dlt hc6
    refine r_exit rfl (r_seq (r_region' (l_q (qab rfl rfl) (l_nil (r_forget [(8, .bool _)] ⟨rfl, trivial⟩ (fun e22 => (r_ret_ (vs := [.bool _]) rfl Tryz.func109 rfl (.nil _) ⟨rfl, trivial⟩ ?_)))))))
    exact ⟨vbool_eq (by rw [hk2]; exact (poss_no hno (by omega)).symm), Ext.of_below hB⟩
theorem poss6_all (ka : Option Addr) (kc : Nat) (co : List Sg) (er : Int) (sa : Option Addr) (sc : Nat) (se : List Int) (ja : Option Addr) (jc : Nat) (sl : List SN) (ra : Option Addr) (rc : Nat) (rl : List RC) (wb m1 m2 : Nat) (R : List SV) (b2 b3 b4 b5 r : Nat) (fal : Bool) (hok : faultM (lg co er se sl rl) = 0) : ∀ (k : Nat) (p : List Int) (u : List Bool) (w : World), p.length + k = rl.length → UsedBy p u → Blk w b2 [ptr wb 0] → Blk w b3 [vint (r : Int)] → Blk w b4 [.bool fal] → Blk w b5 [.func (.func 109) ⟨[]⟩ ⟨[ptr b2 0, ptr b3 0, ptr b4 0, ptr b5 0]⟩] → Blk w wb [.slice ka co.length kc, vint er, .slice sa se.length sc, .slice ja sl.length jc, .slice ra rl.length rc, .map (some m1), .map (some m2)] → WkMaps w m1 m2 R (rl.map (candL (lg co er se sl rl))) → Ret Tryz.prog 109 [vint (p.length : Int), .agg ⟨u.map Value.bool⟩, ptr b2 0, ptr b3 0, ptr b4 0, ptr b5 0] w (fun v w2 => v = .bool (possF (canB (lg co er se sl rl)) sl.length r fal k p) ∧ Ext w w2)
  | 0, p, u, w, hpk, hub, h1, h2, h3, h4, h5, h6 => poss6_step ka kc co er sa sc se ja jc sl ra rc rl wb m1 m2 R b2 b3 b4 b5 r fal p u 0 w hok h1 h2 h3 h4 h5 h6 hpk hub (fun k2 p2 u2 w1 h => by omega)
  | k + 1, p, u, w, hpk, hub, h1, h2, h3, h4, h5, h6 => poss6_step ka kc co er sa sc se ja jc sl ra rc rl wb m1 m2 R b2 b3 b4 b5 r fal p u (k + 1) w hok h1 h2 h3 h4 h5 h6 hpk hub (fun k2 p2 u2 w1 h hp2 hu2 g1 g2 g3 g4 g5 g6 => by
    have e : k2 = k := by omega
    subst e
    exact poss6_all ka kc co er sa sc se ja jc sl ra rc rl wb m1 m2 R b2 b3 b4 b5 r fal hok k2 p2 u2 w1 hp2 hu2 g1 g2 g3 g4 g5 g6)
theorem possible6_ret (ka : Option Addr) (kc : Nat) (co : List Sg) (er : Int) (sa : Option Addr) (sc : Nat) (se : List Int) (ja : Option Addr) (jc : Nat) (sl : List SN) (ra : Option Addr) (rc : Nat) (rl : List RC) (wb m1 m2 : Nat) (R : List SV) (r : Nat) (fal : Bool) (w : World) (hok : faultM (lg co er se sl rl) = 0) (hwb : Blk w wb [.slice ka co.length kc, vint er, .slice sa se.length sc, .slice ja sl.length jc, .slice ra rl.length rc, .map (some m1), .map (some m2)]) (hWm : WkMaps w m1 m2 R (rl.map (candL (lg co er se sl rl)))) : Ret Tryz.prog 77 [ptr wb 0, vint (r : Int), .bool fal] w (fun v w' => v = .bool (possF (canB (lg co er se sl rl)) sl.length r fal rl.length []) ∧ Ext w w') := by
 have hwbl := hwb.lt
 have hB := Below.refl w.heap.size w
 have hsz : w.heap.size ≤ w.heap.size := Nat.le_refl _
 refine ret_of_runs (args := [_, _, _]) Tryz.func77 rfl (Nat.le_of_ble_eq_true rfl) (by kernel_rfl) (r_seq (r_region' (l_o (o_box rfl rfl rfl ?_))))
 intro b1 w1 hzl1 hzr1 _ hb1 hE1
 have hne_wb_b1 : wb ≠ b1 := by have := hwb.lt; omega
 have hbs_b1 : w.heap.size ≤ b1 := Nat.le_trans hsz hzl1
 replace hB := below_ext hB hE1 hsz
 replace hsz := Nat.le_trans hsz hE1.size
 refine l_o (o_box rfl rfl rfl ?_)
 intro b2 w2 hzl2 hzr2 _ hb2 hE2
 have hne_wb_b2 : wb ≠ b2 := by have := hwb.lt; omega
 have hne_b1_b2 : b1 ≠ b2 := by have := hb1.lt; omega
 have hbs_b2 : w.heap.size ≤ b2 := Nat.le_trans hsz hzl2
 replace hB := below_ext hB hE2 hsz
 replace hb1 := hb1.ext hE2
 replace hsz := Nat.le_trans hsz hE2.size
 refine l_o (o_box rfl rfl rfl ?_)
 intro b3 w3 hzl3 hzr3 _ hb3 hE3
 have hne_wb_b3 : wb ≠ b3 := by have := hwb.lt; omega
 have hne_b1_b3 : b1 ≠ b3 := by have := hb1.lt; omega
 have hne_b2_b3 : b2 ≠ b3 := by have := hb2.lt; omega
 have hbs_b3 : w.heap.size ≤ b3 := Nat.le_trans hsz hzl3
 replace hB := below_ext hB hE3 hsz
 replace hb1 := hb1.ext hE3
 replace hb2 := hb2.ext hE3
 replace hsz := Nat.le_trans hsz hE3.size
 refine l_q (qab rfl rfl) (l_nil (r_seq (r_region' (l_q (qab rfl rfl) (l_nil (r_seq (r_region' (l_o (o_alloc Tryz.zeroValue144 rfl rfl ?_)))))))))
 intro b4 w4 hzl4 hzr4 _ hb4 hE4
 have hne_wb_b4 : wb ≠ b4 := by have := hwb.lt; omega
 have hne_b1_b4 : b1 ≠ b4 := by have := hb1.lt; omega
 have hne_b2_b4 : b2 ≠ b4 := by have := hb2.lt; omega
 have hne_b3_b4 : b3 ≠ b4 := by have := hb3.lt; omega
 have hbs_b4 : w.heap.size ≤ b4 := Nat.le_trans hsz hzl4
 replace hB := below_ext hB hE4 hsz
 replace hb1 := hb1.ext hE4
 replace hb2 := hb2.ext hE4
 replace hb3 := hb3.ext hE4
 replace hsz := Nat.le_trans hsz hE4.size
 refine l_nil (r_seq (r_region' (l_q (q_makeFunc (v := .func _ ⟨[]⟩ ⟨[_, _, _, _]⟩) rfl rfl) (l_o (o_store (vs := [.func (.func 109) ⟨[]⟩ ⟨[ptr b1 0, ptr b2 0, ptr b3 0, ptr b4 0]⟩]) (cs' := [.func (.func 109) ⟨[]⟩ ⟨[ptr b1 0, ptr b2 0, ptr b3 0, ptr b4 0]⟩]) Tryz.sizeOf144 rfl rfl rfl rfl hb4 (Nat.le_of_ble_eq_true rfl) rfl rfl ?_)))))
 intro w5 hz5 hb4 hG5
 replace hB := below_upd hB hG5 hsz (by omega)
 replace hsz : w.heap.size ≤ w5.heap.size := by rw [hz5]; exact hsz
 replace hb1 := hb1.upd hG5 (by omega)
 replace hb2 := hb2.upd hG5 (by omega)
 replace hb3 := hb3.upd hG5 (by omega)
 refine l_nil (r_seq (r_region' (l_q (q_load Tryz.isAgg144 rfl ((hb4.has (o := 0) rfl)) rfl) (l_q (q_build (v := .agg ⟨[.bool false, .bool false, .bool false, .bool false, .bool false, .bool false, .bool false, .bool false]⟩) (fun w => by kernel_rfl) rfl) (l_o (o_callv (f := 109) (fst := []) (cap := [_, _, _, _]) rfl Tryz.call109 rfl (poss6_all ka kc co er sa sc se ja jc sl ra rc rl wb m1 m2 R b1 b2 b3 b4 r fal hok rl.length [] (List.replicate 8 false) _ (Nat.zero_add _) UsedBy.nil hb1 hb2 hb3 hb4 (hwb.below hB hwbl) (hWm.below hB)) rfl ?_))))))
 rintro _ w6 ⟨rfl, hE6⟩
 replace hB := below_ext hB hE6 hsz
 replace hsz := Nat.le_trans hsz hE6.size
 refine l_q (qab rfl rfl) (l_nil (r_forget [(7, .bool _)] ⟨rfl, trivial⟩ (fun e7 => (r_seq (r_region' (l_q (qmb rfl rfl) (l_q (qab rfl rfl) (l_nil (r_ret_ (vs := [.bool _]) rfl Tryz.func77 rfl (.nil _) ⟨rfl, trivial⟩ ?_)))))))))
 exact ⟨rfl, Ext.of_below hB⟩
set_option maxHeartbeats 1000000 in
theorem verdicts6_ret (ka : Option Addr) (kc : Nat) (co : List Sg) (er : Int) (sa : Option Addr) (sc : Nat) (se : List Int) (ja : Option Addr) (jc : Nat) (sl : List SN) (ra : Option Addr) (rc : Nat) (rl : List RC) (w : World) (hlg : LgAt w ka kc co sa sc se ja jc sl ra rc rl) (hbg : LgBig co er se sl rl) : Ret Tryz.prog 35 [.agg ⟨[.slice ka co.length kc, vint er, .slice sa se.length sc, .slice ja sl.length jc, .slice ra rl.length rc]⟩] w (fun v w' => ∃ ra0 rc0, v = .tuple ⟨[.slice ra0 ((verdW (lg co er se sl rl)).1).length rc0, vint ((verdW (lg co er se sl rl)).2)]⟩ ∧ Row w' ra0 ((verdW (lg co er se sl rl)).1).length rc0 1 (((verdW (lg co er se sl rl)).1).map vint) ∧ Ext w w') := by
 obtain ⟨⟨hcn, hcl⟩, hen, hsn, ⟨hjn, hjl⟩, hrn, hrl⟩ := id hbg
 have hB := Below.refl w.heap.size w
 have hsz : w.heap.size ≤ w.heap.size := Nat.le_refl _
 refine ret_of_runs (args := [_]) Tryz.func35 rfl (Nat.le_of_ble_eq_true rfl) (by kernel_rfl) (r_seq (r_region' (l_o (o_boxt rfl rfl rfl ?_))))
 intro b1 w1 hzl1 hzr1 _ hb1 hty_b1 hE1
 have hbs_b1 : w.heap.size ≤ b1 := Nat.le_trans hsz hzl1
 replace hB := below_ext hB hE1 hsz
 replace hsz := Nat.le_trans hsz hE1.size
 refine l_q (qas rfl rfl) (l_q (qai rfl rfl) (l_nil (r_seq (r_seq (r_region' (l_q (q_load_agg (n := 5) Tryz.isAgg38 Tryz.sizeOf38 rfl ((hb1.cells' (cs' := [_, _, _, _, _]) 0 5 rfl)) rfl rfl) (l_o (o_call Tryz.call19 rfl (checkLog_ret ka kc co er sa sc se ja jc sl ra rc rl _ (hlg.below hB) hbg) rfl ?_))))))))
 rintro _ w2 ⟨rfl, hE2⟩
 replace hB := below_ext hB hE2 hsz
 replace hb1 := hb1.ext hE2
 replace hty_b1 := hty_b1.ext hE2
 replace hsz := Nat.le_trans hsz hE2.size
 refine l_q (qai rfl rfl) (l_nil (r_seq (r_region' (l_q (qmi rfl rfl) (l_q (q_neq rfl rfl rfl) (l_nil (r_cond rfl (fun hc3 => ?_) (fun hc3 => ?_))))))))
 ·
  replace hc3 := df (nt hc3)
  have h13 : ¬ faultM (lg co er se sl rl) = 0 := by have := hc3; simpa using this
  refine r_seq (r_region' (l_q (qmi rfl rfl) (l_q (qas rfl rfl) (l_q (qai rfl rfl) (l_nil (r_ret_ (vs := [.slice _ _ _, .int _ _]) rfl Tryz.func35 rfl (.nil _) ⟨rfl, rfl, trivial⟩ ?_))))))
  refine ⟨none, 0, ?_, ?_, Ext.of_below hB⟩ <;> rw [verdW_f h13]
  · rfl
  · exact Row.nil _ _ _ _
 ·
  replace hc3 := dt (nf hc3)
  have hok : faultM (lg co er se sl rl) = 0 := by have := hc3; simpa using this
  obtain ⟨⟨hs1, hs4⟩, hj8, hr6, hf0, ⟨he0, he3⟩, hsr, hJn, hRn⟩ := lg_ok hok
  have hj8 : sl.length ≤ 8 := by have h : (lg co er se sl rl).J.length ≤ 8 := hj8; rwa [lgJ] at h
  have hr6 : rl.length ≤ 6 := by have h : (lg co er se sl rl).R.length ≤ 6 := (by omega); exact h
  refine r_skip (r_seq (r_region' (l_q (q_load_agg (n := 5) Tryz.isAgg38 Tryz.sizeOf38 rfl ((hb1.cells' (cs' := [_, _, _, _, _]) 0 5 rfl)) rfl rfl) (l_o (o_call Tryz.call65 rfl (mwork_ret ka kc co er sa sc se ja jc sl ra rc rl _ (hlg.below hB) hbg hok) rfl ?_)))))
  rintro _ w4 ⟨wb, m1, m2, R, rfl, hwb, hty_wb, hWk, hRr, hRm, hE4⟩
  have hltW_b1 := hb1.lt
  replace hB := below_ext hB hE4 hsz
  replace hb1 := hb1.ext hE4
  replace hty_b1 := hty_b1.ext hE4
  replace hsz := Nat.le_trans hsz hE4.size
  have hwbl := hwb.lt
  have hmwl := hWk.lt
  have hm12 := hWk.1
  refine l_q (q_assign (v := .pointer _) rfl rfl) (l_nil (r_forget [(1, .pointer _), (5, .pointer _)] ⟨rfl, rfl, trivial⟩ (fun e5 => (r_seq (r_region' (l_q (qas rfl rfl) (l_nil (r_seq (r_seq (r_region' (l_q (q_fieldAddr (o' := 4) rfl fld38_4 rfl) (l_q (q_load Tryz.isAgg36 rfl ((hb1.has (o := 4) rfl)) rfl) (l_q (q_len rfl Tryz.underlying36 rfl rfl) (l_q (qmi rfl rfl) (l_nil (r_block ?_))))))))))))))))
  refine r_rounds (α := Nat × (Option Addr) × Nat × (List Int)) (fun ⟨k, oa, oc, p⟩ e wl => Knows e [(5, ptr wb 0), (6, .slice oa ((p).length) oc), (19, vint (rl.length : Int)), (20, vint (k : Int))] ∧ (k ≤ rl.length) ∧ (p = (List.range k).map (verdV (lg co er se sl rl))) ∧ (∀ j, j < k → (ownV (lg co er se sl rl) j || falV (lg co er se sl rl) j) = true) ∧ (wl.ownsRow w.heap.size 3 1 (.slice oa ((p).length) oc) ((p).length) ((p).map vint)) ∧ (Blk wl b1 [.slice ka co.length kc, vint er, .slice sa se.length sc, .slice ja sl.length jc, .slice ra rl.length rc]) ∧ (TyAt wl b1 38) ∧ (Blk wl wb [.slice ka co.length kc, vint er, .slice sa se.length sc, .slice ja sl.length jc, .slice ra rl.length rc, .map (some m1), .map (some m2)]) ∧ (WkMaps wl m1 m2 R (rl.map (candL (lg co er se sl rl)))) ∧ (TyAt wl wb 96) ∧ (w.heap.size ≤ wl.heap.size) ∧ (Below w.heap.size w wl)) (fun ⟨k, oa, oc, p⟩ => rl.length - k) ⟨0, none, 0, []⟩ ?_ ?_
  ·
   exact ⟨⟨rfl, rfl, rfl, rfl, trivial⟩, (by omega), rfl, (fun i hi => absurd hi (Nat.not_lt_zero _)), (World.ownsRow_nil _ _ _ _), hb1, hty_b1, hwb, hWk, hty_wb, hsz, hB⟩
  ·
   rintro ⟨k, oa, oc, p⟩ el6 wl6 ⟨hkn, hkr, hp, hno, ho, hb1, hty_b1, hwb, hWk, hty_wb, hsz, hB⟩ ih6
   obtain ⟨e6, rfl⟩ := knows_env hkn
   refine r_seq (r_region' (l_q (q_lss rfl rfl rfl) (l_nil (r_seq (r_cond rfl (fun hc7 => ?_) (fun hc7 => ?_))))))
   ·
    replace hc7 := dt hc7
    have hkR : k < rl.length := by omega
    have hpl : p.length = k := by rw [hp, List.length_map, List.length_range]
    refine r_skip (r_seq (r_block (r_seq (r_region' (l_q (qmi rfl rfl) (l_q (qai rfl rfl) (l_nil (r_seq (r_region' (l_q (q_move (v := .pointer _) rfl rfl) (l_q (qmi rfl rfl) (l_o (o_call Tryz.call77 rfl (possible6_ret ka kc co er sa sc se ja jc sl ra rc rl wb m1 m2 R k false _ hok hwb hWk) rfl ?_)))))))))))))
    rintro _ w8 ⟨rfl, hE8⟩
    replace hB := below_ext hB hE8 hsz
    replace hb1 := hb1.ext hE8
    replace hty_b1 := hty_b1.ext hE8
    replace hwb := hwb.ext hE8
    replace hWk := hWk.ext hE8
    replace hty_wb := hty_wb.ext hE8
    replace ho := own_ext ho hE8
    replace hsz := Nat.le_trans hsz hE8.size
    refine l_q (q_move (v := .pointer _) rfl rfl) (l_q (qmi rfl rfl) (l_o (o_call Tryz.call77 rfl (possible6_ret ka kc co er sa sc se ja jc sl ra rc rl wb m1 m2 R k true _ hok hwb hWk) rfl ?_)))
    rintro _ w9 ⟨rfl, hE9⟩
    replace hB := below_ext hB hE9 hsz
    replace hb1 := hb1.ext hE9
    replace hty_b1 := hty_b1.ext hE9
    replace hwb := hwb.ext hE9
    replace hWk := hWk.ext hE9
    replace hty_wb := hty_wb.ext hE9
    replace ho := own_ext ho hE9
    replace hsz := Nat.le_trans hsz hE9.size
    refine l_q (qab rfl rfl) (l_q (qab rfl rfl) (l_nil (r_block (r_seq (r_region' (l_q (qmb rfl rfl) (l_q (qmb rfl rfl) (l_part 31 rfl (fun hc10 => ?_) (fun hc10 => ?_)))))))))
    ·
     have g8 : ownV (lg co er se sl rl) k = true := ownV_eq.trans hc10
     refine l_q (qmb rfl rfl) (l_q (q_pick_t (v := .bool _) rfl rfl rfl) (l_q (qab rfl rfl) (l_nil (r_forget [(5, .pointer _), (6, .slice _ _ _), (8, .bool _), (9, .bool _), (19, .int _ _), (20, .int _ _), (29, .bool _)] ⟨rfl, rfl, rfl, rfl, rfl, rfl, rfl, trivial⟩ (fun e11 => (r_cond rfl (fun hc12 => ?_) (fun hc12 => ?_)))))))
     ·
      have g9 : falV (lg co er se sl rl) k = true := falV_eq.trans hc12
      have hvx := verd_3 g8 g9
      have hvy : (ownV (lg co er se sl rl) k || falV (lg co er se sl rl) k) = true := by rw [g8]; rfl
      refine r_region' (l_q (qms rfl rfl) (l_o (o_buildSlice (el := 3) (cs := [vint 3]) Tryz.underlying25 el3 (by decide) (by kernel_rfl) rfl (by decide) rfl ?_)))
      intro b13 w13 hzl13 hzr13 _ hb13 hE13 ho13
      have hne_b1_b13 : b1 ≠ b13 := by have := hb1.lt; omega
      have hne_wb_b13 : wb ≠ b13 := by have := hwb.lt; omega
      have hmw_b13 : m2 < b13 := Nat.lt_of_lt_of_le hWk.lt hzl13
      have hbs_b13 : w.heap.size ≤ b13 := Nat.le_trans hsz hzl13
      replace hB := below_ext hB hE13 hsz
      replace hb1 := hb1.ext hE13
      replace hty_b1 := hty_b1.ext hE13
      replace hwb := hwb.ext hE13
      replace hWk := hWk.ext hE13
      replace hty_wb := hty_wb.ext hE13
      replace ho := own_ext ho hE13
      replace hsz := Nat.le_trans hsz hE13.size
      refine l_o (o_append_map (f := vint) (p) ([3]) Tryz.underlying25 el3 rfl rfl ho rfl (Row.of_owns ho13) (fun _ => rfl) (by (try simp only [List.length_append, List.length_cons, List.length_nil, List.length_take, List.length_drop, List.length_replicate]); omega) (by omega) rfl ?_)
      intro a14 c14 w14 hz14 ho14 hG14
      replace hB := below_own hB hG14 ho (by omega) hsz
      replace hsz := Nat.le_trans hsz hG14.size
      replace hb1 := hb1.step hG14 (own_ty_ne ho hty_b1 (by decide))
      replace hwb := hwb.step hG14 (own_ty_ne ho hty_wb (by decide))
      replace hWk := WkMaps.own hWk ho hG14
      replace hty_b1 := TyAt.own hty_b1 ho hG14 (by decide)
      replace hty_wb := TyAt.own hty_wb ho hG14 (by decide)
      refine l_q (qas rfl rfl) (l_nil (r_inBlock (r_inBlock (r_region' (l_q (q_add rfl rfl (by omega) rfl) (l_q (qmi rfl rfl) (l_nil ?_)))))))
      exact ih6 ⟨k + 1, a14, c14, p ++ [3]⟩ _ _ ⟨⟨rfl, rfl, rfl, (vint_eq (by omega)), trivial⟩, (by omega), (verd_snoc hp hvx), (fun j hj => by rcases Nat.lt_succ_iff_lt_or_eq.1 hj with h | h; exact hno j h; subst h; exact hvy), ho14, hb1, hty_b1, hwb, hWk, hty_wb, hsz, hB⟩ (by first | omega | (dsimp only; omega))
     ·
      have g9 : falV (lg co er se sl rl) k = false := falV_eq.trans hc12
      refine r_seq (r_region' (l_q (qmb rfl rfl) (l_q (qab rfl rfl) (l_nil ?_))))
      have hk15 : (possF (canB (lg co er se sl rl)) sl.length k false rl.length []) = true := ownV_eq.symm.trans g8
      refine r_cond_t ((congrArg Value.bool hk15 : Value.bool _ = _)) ?_
      have hvx := verd_1 g8 g9
      have hvy : (ownV (lg co er se sl rl) k || falV (lg co er se sl rl) k) = true := by rw [g8]; rfl
      refine r_region' (l_q (qms rfl rfl) (l_o (o_buildSlice (el := 3) (cs := [vint 1]) Tryz.underlying25 el3 (by decide) (by kernel_rfl) rfl (by decide) rfl ?_)))
      intro b16 w16 hzl16 hzr16 _ hb16 hE16 ho16
      have hne_b1_b16 : b1 ≠ b16 := by have := hb1.lt; omega
      have hne_wb_b16 : wb ≠ b16 := by have := hwb.lt; omega
      have hmw_b16 : m2 < b16 := Nat.lt_of_lt_of_le hWk.lt hzl16
      have hbs_b16 : w.heap.size ≤ b16 := Nat.le_trans hsz hzl16
      replace hB := below_ext hB hE16 hsz
      replace hb1 := hb1.ext hE16
      replace hty_b1 := hty_b1.ext hE16
      replace hwb := hwb.ext hE16
      replace hWk := hWk.ext hE16
      replace hty_wb := hty_wb.ext hE16
      replace ho := own_ext ho hE16
      replace hsz := Nat.le_trans hsz hE16.size
      refine l_o (o_append_map (f := vint) (p) ([1]) Tryz.underlying25 el3 rfl rfl ho rfl (Row.of_owns ho16) (fun _ => rfl) (by (try simp only [List.length_append, List.length_cons, List.length_nil, List.length_take, List.length_drop, List.length_replicate]); omega) (by omega) rfl ?_)
      intro a17 c17 w17 hz17 ho17 hG17
      replace hB := below_own hB hG17 ho (by omega) hsz
      replace hsz := Nat.le_trans hsz hG17.size
      replace hb1 := hb1.step hG17 (own_ty_ne ho hty_b1 (by decide))
      replace hwb := hwb.step hG17 (own_ty_ne ho hty_wb (by decide))
      replace hWk := WkMaps.own hWk ho hG17
      replace hty_b1 := TyAt.own hty_b1 ho hG17 (by decide)
      replace hty_wb := TyAt.own hty_wb ho hG17 (by decide)
      refine l_q (qas rfl rfl) (l_nil (r_inBlock (r_inBlock (r_region' (l_q (q_add rfl rfl (by omega) rfl) (l_q (qmi rfl rfl) (l_nil ?_)))))))
      exact ih6 ⟨k + 1, a17, c17, p ++ [1]⟩ _ _ ⟨⟨rfl, rfl, rfl, (vint_eq (by omega)), trivial⟩, (by omega), (verd_snoc hp hvx), (fun j hj => by rcases Nat.lt_succ_iff_lt_or_eq.1 hj with h | h; exact hno j h; subst h; exact hvy), ho17, hb1, hty_b1, hwb, hWk, hty_wb, hsz, hB⟩ (by first | omega | (dsimp only; omega))
    ·
     have g8 : ownV (lg co er se sl rl) k = false := ownV_eq.trans hc10
     refine l_q (q_skip rfl) (l_q (q_pick_f (v := .bool _) rfl rfl rfl) (l_q (qab rfl rfl) (l_nil (r_forget [(5, .pointer _), (6, .slice _ _ _), (8, .bool _), (9, .bool _), (19, .int _ _), (20, .int _ _), (29, .bool _)] ⟨rfl, rfl, rfl, rfl, rfl, rfl, rfl, trivial⟩ (fun e18 => (r_cond_f rfl (r_seq (r_region' (l_q (qmb rfl rfl) (l_q (qab rfl rfl) (l_nil ?_)))))))))))
     have hk19 : (possF (canB (lg co er se sl rl)) sl.length k false rl.length []) = false := ownV_eq.symm.trans g8
     refine r_cond_f ((congrArg Value.bool hk19 : Value.bool _ = _)) (r_seq (r_region' (l_q (qmb rfl rfl) (l_q (qab rfl rfl) (l_nil (r_cond rfl (fun hc20 => ?_) (fun hc20 => ?_)))))))
     ·
      have g9 : falV (lg co er se sl rl) k = true := falV_eq.trans hc20
      have hvx := verd_2 g8
      have hvy : (ownV (lg co er se sl rl) k || falV (lg co er se sl rl) k) = true := by rw [g8, g9]; rfl
      refine r_region' (l_q (qms rfl rfl) (l_o (o_buildSlice (el := 3) (cs := [vint 2]) Tryz.underlying25 el3 (by decide) (by kernel_rfl) rfl (by decide) rfl ?_)))
      intro b21 w21 hzl21 hzr21 _ hb21 hE21 ho21
      have hne_b1_b21 : b1 ≠ b21 := by have := hb1.lt; omega
      have hne_wb_b21 : wb ≠ b21 := by have := hwb.lt; omega
      have hmw_b21 : m2 < b21 := Nat.lt_of_lt_of_le hWk.lt hzl21
      have hbs_b21 : w.heap.size ≤ b21 := Nat.le_trans hsz hzl21
      replace hB := below_ext hB hE21 hsz
      replace hb1 := hb1.ext hE21
      replace hty_b1 := hty_b1.ext hE21
      replace hwb := hwb.ext hE21
      replace hWk := hWk.ext hE21
      replace hty_wb := hty_wb.ext hE21
      replace ho := own_ext ho hE21
      replace hsz := Nat.le_trans hsz hE21.size
      refine l_o (o_append_map (f := vint) (p) ([2]) Tryz.underlying25 el3 rfl rfl ho rfl (Row.of_owns ho21) (fun _ => rfl) (by (try simp only [List.length_append, List.length_cons, List.length_nil, List.length_take, List.length_drop, List.length_replicate]); omega) (by omega) rfl ?_)
      intro a22 c22 w22 hz22 ho22 hG22
      replace hB := below_own hB hG22 ho (by omega) hsz
      replace hsz := Nat.le_trans hsz hG22.size
      replace hb1 := hb1.step hG22 (own_ty_ne ho hty_b1 (by decide))
      replace hwb := hwb.step hG22 (own_ty_ne ho hty_wb (by decide))
      replace hWk := WkMaps.own hWk ho hG22
      replace hty_b1 := TyAt.own hty_b1 ho hG22 (by decide)
      replace hty_wb := TyAt.own hty_wb ho hG22 (by decide)
      refine l_q (qas rfl rfl) (l_nil (r_forget [(5, .pointer _), (6, .slice _ _ _), (19, .int _ _), (20, .int _ _)] ⟨rfl, rfl, rfl, rfl, trivial⟩ (fun e23 => (r_inBlock (r_inBlock (r_region' (l_q (q_add rfl rfl (by omega) rfl) (l_q (qmi rfl rfl) (l_nil ?_)))))))))
      exact ih6 ⟨k + 1, a22, c22, p ++ [2]⟩ _ _ ⟨⟨rfl, rfl, rfl, (vint_eq (by omega)), trivial⟩, (by omega), (verd_snoc hp hvx), (fun j hj => by rcases Nat.lt_succ_iff_lt_or_eq.1 hj with h | h; exact hno j h; subst h; exact hvy), ho22, hb1, hty_b1, hwb, hWk, hty_wb, hsz, hB⟩ (by first | omega | (dsimp only; omega))
     ·
      have g9 : falV (lg co er se sl rl) k = false := falV_eq.trans hc20
      refine r_seq (r_region' (l_q (qas rfl rfl) (l_q (qai rfl rfl) (l_nil (r_forget [(2, .slice _ _ _), (3, .int _ _)] ⟨rfl, rfl, trivial⟩ (fun e24 => (r_ret_ (vs := [.slice _ _ _, .int _ _]) rfl Tryz.func35 rfl (.nil _) ⟨rfl, rfl, trivial⟩ ?_)))))))
      refine ⟨none, 0, ?_, ?_, Ext.of_below hB⟩ <;> rw [verdW_11 hok hkR g8 g9]
      · rfl
      · exact Row.nil _ _ _ _
   ·
    replace hc7 := dlt hc7
    refine r_exit rfl (r_seq (r_region' (l_q (qms rfl rfl) (l_q (qas rfl rfl) (l_q (qai rfl rfl) (l_nil (r_ret_ (vs := [.slice _ _ _, .int _ _]) rfl Tryz.func35 rfl (.nil _) ⟨rfl, rfl, trivial⟩ ?_)))))))
    have hkk : k = rl.length := by omega
    refine ⟨oa, oc, ?_, ?_, Ext.of_below hB⟩ <;> rw [verdW_ok hok hkk hno, ← hp]
    · rfl
    · exact Row.of_owns ho
end Go.Proofs.YtekkdhpgcilpdaaGreat
