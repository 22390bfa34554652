/- Contracts. -/
import Derived.Test.YtekkdhpgcilpdaaGreatM8
set_option linter.unusedVariables false
set_option linter.unusedSimpArgs false
namespace Go.Proofs.YtekkdhpgcilpdaaGreat
open Go Go.RowKit Go.Gv Go.Fl
section
variable {co : List Sg} {er : Int} {se : List Int} {sl : List SN} {rl : List RC} {can : Nat → Int → Bool} {m k k2 i n : Nat} {p : List Int} {v : Int}
theorem lgJ : (lg co er se sl rl).J.length = sl.length := List.length_map ..
theorem lgR : (lg co er se sl rl).R.length = rl.length := rfl
def assignM (l : Lg) : List Int × Int := if ¬ faultM l = 0 then ([], faultM l) else if 1024 ≤ fewF (canB l) l.J.length noB l.R.length [] then ([], 11) else (bestM l, 0)
theorem assign_f {l : Lg} (h : ¬ faultM l = 0) : assignM l = ([], faultM l) := by unfold assignM; rw [if_pos h]
theorem assign_11 (h : faultM (lg co er se sl rl) = 0) (h2 : 1024 ≤ fewF (canB (lg co er se sl rl)) sl.length noB rl.length []) : assignM (lg co er se sl rl) = ([], 11) := by
  unfold assignM; rw [if_neg (fun h3 => h3 h), lgJ, lgR, if_pos h2]
theorem assign_ok (h : faultM (lg co er se sl rl) = 0) (h2 : fewF (canB (lg co er se sl rl)) sl.length noB rl.length [] < 1024) (he : extF (canB (lg co er se sl rl)) sl.length 0 p v = extF (canB (lg co er se sl rl)) sl.length rl.length [] (fewF (canB (lg co er se sl rl)) sl.length noB rl.length [])) : assignM (lg co er se sl rl) = (p, 0) := by
  unfold assignM bestM; rw [if_neg (fun h3 => h3 h), lgJ, lgR, if_neg (by omega), ← he]; rfl
theorem bys_find {q : Int → Bool} (hi : i < m + 1) (hno : ∀ j, j < i → q ((j : Int) - 1) = false) (hq : q ((i : Int) - 1) = true) : (bys m).find? q = some ((i : Int) - 1) := by
  rw [List.find?_eq_some_iff_getElem]
  have g : ∀ j (hj : j < (bys m).length), (bys m)[j] = (j : Int) - 1 := fun j hj => by
    rw [← bys_at (m := m) (i := j) (by rw [bys_len] at hj; exact hj), List.getD_eq_getElem?_getD, List.getElem?_eq_getElem hj]; rfl
  refine ⟨hq, i, by rw [bys_len]; exact hi, g i _, fun j hj => ?_⟩
  rw [g j, hno j hj]; rfl
theorem bys_none {q : Int → Bool} (hno : ∀ j, j < m + 1 → q ((j : Int) - 1) = false) : (bys m).find? q = none := by
  rw [List.find?_eq_none]
  intro x hx
  obtain ⟨h1, h2⟩ := mem_bys.1 hx
  have := hno (x + 1).toNat (by omega)
  rw [show (((x + 1).toNat : Nat) : Int) - 1 = x by omega] at this
  rw [this]; decide
theorem ext_dead (hk : k2 ≤ 999) (hn : fewF can m noB (k2 + 1) p = v) (h : v < 1024) (hno : ∀ j, j < m + 1 → takeB can m k2 p v ((j : Int) - 1) = false) : False := by
  obtain ⟨b, hb⟩ := ext_find hk hn h
  rw [bys_none hno] at hb
  cases hb
theorem ext_next (hi : i < m + 1) (hno : ∀ j, j < i → takeB can m k2 p v ((j : Int) - 1) = false) (h1 : stepB can p ((i : Int) - 1) = true) (h2 : fewF can m noB k2 (p ++ [(i : Int) - 1]) = v - costB ((i : Int) - 1)) : extF can m (k2 + 1) p v = extF can m k2 (p ++ [(i : Int) - 1]) (v - costB ((i : Int) - 1)) := by
  rw [extF, bys_find hi hno (by unfold takeB; rw [h1, decide_eq_true h2]; rfl)]
theorem take_no1 (h1 : stepB can p ((i : Int) - 1) = false) : takeB can m k2 p v ((i : Int) - 1) = false := by unfold takeB; rw [h1]; rfl
theorem take_no2 (h2 : ¬ fewF can m noB k2 (p ++ [(i : Int) - 1]) = v - costB ((i : Int) - 1)) : takeB can m k2 p v ((i : Int) - 1) = false := by unfold takeB; rw [decide_eq_false h2, Bool.and_false]
end
/-- the class of what is done between two reads: a block stays -/
def ClsK (b : Nat) (cs : List Value) (w w' : World) : Prop := Blk w b cs → Blk w' b cs
theorem ClsK.refl (b : Nat) (cs : List Value) : ∀ w, ClsK b cs w w := fun _ => id
theorem ClsK.trans (b : Nat) (cs : List Value) : ∀ u v w, ClsK b cs u v → ClsK b cs v w → ClsK b cs u w := fun _ _ _ h1 h2 h => h2 (h1 h)
theorem ClsK.ext {b : Nat} {cs : List Value} {w w' : World} (h : Ext w w') : ClsK b cs w w' := fun h1 => h1.ext h

theorem o_store_allt {P : Program} {ops : Array Oper} {e : Env} {w : World} {d : Option Nat} {ty : TypeId} {pos : String} {af : Array Edge} {g : Option (Nat × Bool)} {K : Value → World → Prop} {t : TypeId} {x y : Operand} {b n : Nat} {cs cs' : List Value} (hsz : ∀ w, (sizeOf t).run P w = .ok n w) (hx : ev e x = ptr b 0) (hy : ev e y = .agg ⟨cs'⟩)
    (hb : Blk w b cs) (hl : cs.length = n) (hl' : cs'.length = n) (h1 : cs'.all Value.oneCell' = true) (hw : wantedE ops e ⟨d, .store t x y, ty, pos, af, g⟩ = true)
    (h : ∀ w', w'.heap.size = w.heap.size → Blk w' b cs' → (∀ T, TyAt w b T → TyAt w' b T) → w.grownBy w' (some b) → K undef w') : EffAt P ops e w ⟨d, .store t x y, ty, pos, af, g⟩ K :=
  o_storet (vs := cs') (cs' := cs') (by rw [hl']; exact hsz) hx hy rfl h1 hb (by omega) (by simp [hl, hl']) hw h


set_option maxHeartbeats 1000000 in
theorem assign6_ret (ka : Option Addr) (kc : Nat) (co : List Sg) (er : Int) (sa : Option Addr) (sc : Nat) (se : List Int) (ja : Option Addr) (jc : Nat) (sl : List SN) (ra : Option Addr) (rc : Nat) (rl : List RC) (w : World) (hlg : LgAt w ka kc co sa sc se ja jc sl ra rc rl) (hbg : LgBig co er se sl rl) : Ret Tryz.prog 36 [.agg ⟨[.slice ka co.length kc, vint er, .slice sa se.length sc, .slice ja sl.length jc, .slice ra rl.length rc]⟩] w (fun v w' => ∃ ra0 rc0, v = .tuple ⟨[.slice ra0 ((assignM (lg co er se sl rl)).1).length rc0, vint ((assignM (lg co er se sl rl)).2)]⟩ ∧ Row w' ra0 ((assignM (lg co er se sl rl)).1).length rc0 1 (((assignM (lg co er se sl rl)).1).map vint) ∧ Ext w w') := by
 obtain ⟨⟨hcn, hcl⟩, hen, hsn, ⟨hjn, hjl⟩, hrn, hrl⟩ := id hbg
 have hB := Below.refl w.heap.size w
 have hsz : w.heap.size ≤ w.heap.size := Nat.le_refl _
 refine ret_of_runs (args := [_]) Tryz.func36 rfl (Nat.le_of_ble_eq_true rfl) (by kernel_rfl) (r_seq (r_region' (l_o (o_boxt rfl rfl rfl ?_))))
 intro b1 w1 hzl1 hzr1 _ hb1 hty_b1 hE1
 have hbs_b1 : w.heap.size ≤ b1 := Nat.le_trans hsz hzl1
 replace hB := below_ext hB hE1 hsz
 replace hsz := Nat.le_trans hsz hE1.size
 refine l_q (qas rfl rfl) (l_q (qai rfl rfl) (l_nil (r_seq (r_seq (r_region' (l_q (q_load_agg (n := 5) Tryz.isAgg38 Tryz.sizeOf38 rfl ((hb1.cells' (cs' := [_, _, _, _, _]) 0 5 rfl)) rfl rfl) (l_o (o_call Tryz.call19 rfl (checkLog_ret ka kc co er sa sc se ja jc sl ra rc rl _ (hlg.below hB) hbg) rfl ?_))))))))
 rintro _ w2 ⟨rfl, hE2⟩
 replace hB := below_ext hB hE2 hsz
 replace hb1 := hb1.ext hE2
 replace hty_b1 := hty_b1.ext hE2
 replace hsz := Nat.le_trans hsz hE2.size
 refine l_q (qai rfl rfl) (l_nil (r_seq (r_region' (l_q (qmi rfl rfl) (l_q (q_neq rfl rfl rfl) (l_nil (r_cond rfl (fun hc3 => ?_) (fun hc3 => ?_))))))))
 ·
  replace hc3 := df (nt hc3)
  have h17 : ¬ faultM (lg co er se sl rl) = 0 := by have := hc3; simpa using this
  refine r_seq (r_region' (l_q (qmi rfl rfl) (l_q (qas rfl rfl) (l_q (qai rfl rfl) (l_nil (r_ret_ (vs := [.slice _ _ _, .int _ _]) rfl Tryz.func36 rfl (.nil _) ⟨rfl, rfl, trivial⟩ ?_))))))
  refine ⟨none, 0, ?_, ?_, Ext.of_below hB⟩ <;> rw [assign_f h17]
  · rfl
  · exact Row.nil _ _ _ _
 ·
  replace hc3 := dt (nf hc3)
  have hok : faultM (lg co er se sl rl) = 0 := by have := hc3; simpa using this
  obtain ⟨⟨hs1, hs4⟩, hj8, hr6, hf0, ⟨he0, he3⟩, hsr, hJn, hRn⟩ := lg_ok hok
  have hj8 : sl.length ≤ 8 := by have h : (lg co er se sl rl).J.length ≤ 8 := hj8; rwa [lgJ] at h
  have hr6 : rl.length ≤ 6 := by have h : (lg co er se sl rl).R.length ≤ 6 := (by omega); exact h
  refine r_skip (r_seq (r_region' (l_q (q_load_agg (n := 5) Tryz.isAgg38 Tryz.sizeOf38 rfl ((hb1.cells' (cs' := [_, _, _, _, _]) 0 5 rfl)) rfl rfl) (l_o (o_call Tryz.call65 rfl (mwork_ret ka kc co er sa sc se ja jc sl ra rc rl _ (hlg.below hB) hbg hok) rfl ?_)))))
  rintro _ w4 ⟨wb, m1, m2, R, rfl, hwb, hty_wb, hWk, hRr, hRm, hE4⟩
  have hltW_b1 := hb1.lt
  replace hB := below_ext hB hE4 hsz
  replace hb1 := hb1.ext hE4
  replace hty_b1 := hty_b1.ext hE4
  replace hsz := Nat.le_trans hsz hE4.size
  have hwbl := hwb.lt
  have hmwl := hWk.lt
  have hm12 := hWk.1
  refine l_q (q_assign (v := .pointer _) rfl rfl) (l_nil (r_forget [(1, .pointer _), (5, .pointer _)] ⟨rfl, rfl, trivial⟩ (fun e5 => (r_seq (r_region' (l_q (q_move (v := .pointer _) rfl rfl) (l_q (q_build (v := .agg ⟨[.bool false, .bool false, .bool false, .bool false, .bool false, .bool false, .bool false, .bool false]⟩) (fun w => by kernel_rfl) rfl) ?_)))))))
  have hfw0 := few6_ret ka kc co er sa sc se ja jc sl ra rc rl wb m1 m2 R none 0 [] hok (Nat.zero_le _) rl.length [] (List.replicate 8 false) w4 hwb hWk (Nat.zero_add _) UsedBy.nil (Row.nil _ _ _ _)
  rw [outL_nil] at hfw0
  refine l_o (o_call Tryz.call74 rfl (hfw0) rfl ?_)
  rintro _ w6 ⟨rfl, hE6⟩
  replace hB := below_ext hB hE6 hsz
  replace hb1 := hb1.ext hE6
  replace hty_b1 := hty_b1.ext hE6
  replace hwb := hwb.ext hE6
  replace hWk := hWk.ext hE6
  replace hty_wb := hty_wb.ext hE6
  replace hsz := Nat.le_trans hsz hE6.size
  have hfr := few_rng (can := (canB (lg co er se sl rl))) (m := sl.length) (out := noB) (k := rl.length) (p := []) (by omega)
  refine l_q (qai rfl rfl) (l_nil (r_seq (r_seq (r_region' (l_q (qmi rfl rfl) (l_q (q_geq rfl rfl rfl) (l_nil (r_cond rfl (fun hc7 => ?_) (fun hc7 => ?_)))))))))
  ·
   replace hc7 := dt hc7
   have h25 : 1024 ≤ fewF (canB (lg co er se sl rl)) sl.length noB rl.length [] := by have := hc7; simpa using this
   refine r_seq (r_region' (l_q (qas rfl rfl) (l_q (qai rfl rfl) (l_nil (r_ret_ (vs := [.slice _ _ _, .int _ _]) rfl Tryz.func36 rfl (.nil _) ⟨rfl, rfl, trivial⟩ ?_)))))
   refine ⟨none, 0, ?_, ?_, Ext.of_below hB⟩ <;> rw [assign_11 hok h25]
   · rfl
   · exact Row.nil _ _ _ _
  ·
   replace hc7 := dle hc7
   have h25 : fewF (canB (lg co er se sl rl)) sl.length noB rl.length [] < 1024 := by have := hc7; simpa using this
   refine r_skip (r_seq (r_region' (l_q (qas rfl rfl) (l_nil (r_seq (r_region' (l_o (o_alloct Tryz.zeroValue106 rfl rfl ?_))))))))
   intro b8 w8 hzl8 hzr8 _ hb8 hty_b8 hE8
   have hne_b1_b8 : b1 ≠ b8 := by have := hb1.lt; omega
   have hne_wb_b8 : wb ≠ b8 := by have := hwb.lt; omega
   have hmw_b8 : m2 < b8 := Nat.lt_of_lt_of_le hWk.lt hzl8
   have hbs_b8 : w.heap.size ≤ b8 := Nat.le_trans hsz hzl8
   replace hB := below_ext hB hE8 hsz
   replace hb1 := hb1.ext hE8
   replace hty_b1 := hty_b1.ext hE8
   replace hwb := hwb.ext hE8
   replace hWk := hWk.ext hE8
   replace hty_wb := hty_wb.ext hE8
   replace hsz := Nat.le_trans hsz hE8.size
   refine l_nil (r_seq (r_seq (r_region' (l_q (q_fieldAddr (o' := 4) rfl fld38_4 rfl) (l_q (q_load Tryz.isAgg36 rfl ((hb1.has (o := 4) rfl)) rfl) (l_q (q_len rfl Tryz.underlying36 rfl rfl) (l_q (qmi rfl rfl) (l_nil (r_block ?_)))))))))
   refine r_rounds (α := Nat × (Option Addr) × Nat × (List Int) × (List Bool) × Int) (fun ⟨n, oa, oc, p, u, v⟩ e wl => Knows e [(1, ptr b1 0), (5, ptr wb 0), (6, vint v), (7, .slice oa ((p).length) oc), (8, ptr b8 0), (28, vint (rl.length : Int)), (29, vint (n : Int))] ∧ (n ≤ rl.length) ∧ (p.length = n) ∧ (UsedBy p u) ∧ (fewF (canB (lg co er se sl rl)) sl.length noB (rl.length - n) p = v) ∧ (0 ≤ v ∧ v < 1024) ∧ (extF (canB (lg co er se sl rl)) sl.length (rl.length - n) p v = extF (canB (lg co er se sl rl)) sl.length rl.length [] (fewF (canB (lg co er se sl rl)) sl.length noB rl.length [])) ∧ (wl.ownsRow w.heap.size 3 1 (.slice oa ((p).length) oc) ((p).length) ((p).map vint)) ∧ (Blk wl b8 ((u).map Value.bool)) ∧ (Blk wl b1 [.slice ka co.length kc, vint er, .slice sa se.length sc, .slice ja sl.length jc, .slice ra rl.length rc]) ∧ (TyAt wl b1 38) ∧ (Blk wl wb [.slice ka co.length kc, vint er, .slice sa se.length sc, .slice ja sl.length jc, .slice ra rl.length rc, .map (some m1), .map (some m2)]) ∧ (WkMaps wl m1 m2 R (rl.map (candL (lg co er se sl rl)))) ∧ (TyAt wl wb 96) ∧ (TyAt wl b8 106) ∧ (w.heap.size ≤ wl.heap.size) ∧ (Below w.heap.size w wl)) (fun ⟨n, oa, oc, p, u, v⟩ => rl.length - n) ⟨0, none, 0, [], List.replicate 8 false, fewF (canB (lg co er se sl rl)) sl.length noB rl.length []⟩ ?_ ?_
   ·
    exact ⟨⟨rfl, rfl, rfl, rfl, rfl, rfl, rfl, trivial⟩, (by omega), rfl, UsedBy.nil, rfl, (by omega), rfl, (World.ownsRow_nil _ _ _ _), hb8, hb1, hty_b1, hwb, hWk, hty_wb, hty_b8, hsz, hB⟩
   ·
    rintro ⟨n, oa, oc, p, u, v⟩ el9 wl9 ⟨hkn, hnr, hpn, hub, hv, hvr, hext, ho, hb8, hb1, hty_b1, hwb, hWk, hty_wb, hty_b8, hsz, hB⟩ ih9
    obtain ⟨e9, rfl⟩ := knows_env hkn
    refine r_seq (r_region' (l_q (q_lss rfl rfl rfl) (l_nil (r_seq (r_cond rfl (fun hc10 => ?_) (fun hc10 => ?_))))))
    ·
     replace hc10 := dt hc10
     obtain ⟨k2, hk2⟩ : ∃ k2, rl.length - n = k2 + 1 := ⟨rl.length - n - 1, by omega⟩
     rw [hk2] at hv
     refine r_skip (r_seq (r_block (r_seq (r_region' (l_q (qmi rfl rfl) (l_q (qai rfl rfl) (l_nil (r_seq (r_region' (l_q (qai rfl rfl) (l_nil (r_block ?_))))))))))))
     refine r_rounds (α := Nat) (fun i e wl => Knows e [(1, ptr b1 0), (5, ptr wb 0), (6, vint v), (7, .slice oa ((p).length) oc), (8, ptr b8 0), (9, vint (n : Int)), (10, vint ((i : Int) - 1)), (28, vint (rl.length : Int)), (29, vint (n : Int))] ∧ (i ≤ sl.length + 1) ∧ (∀ j, j < i → takeB (canB (lg co er se sl rl)) sl.length k2 p v ((j : Int) - 1) = false) ∧ (Blk wl b1 [.slice ka co.length kc, vint er, .slice sa se.length sc, .slice ja sl.length jc, .slice ra rl.length rc]) ∧ (TyAt wl b1 38) ∧ (Blk wl wb [.slice ka co.length kc, vint er, .slice sa se.length sc, .slice ja sl.length jc, .slice ra rl.length rc, .map (some m1), .map (some m2)]) ∧ (WkMaps wl m1 m2 R (rl.map (candL (lg co er se sl rl)))) ∧ (TyAt wl wb 96) ∧ (Blk wl b8 ((u).map Value.bool)) ∧ (TyAt wl b8 106) ∧ (wl.ownsRow w.heap.size 3 1 (.slice oa ((p).length) oc) ((p).length) ((p).map vint)) ∧ (w.heap.size ≤ wl.heap.size) ∧ (Below w.heap.size w wl)) (fun i => sl.length + 1 - i) 0 ?_ ?_
     ·
      exact ⟨⟨rfl, rfl, rfl, rfl, rfl, rfl, rfl, rfl, rfl, trivial⟩, (by omega), (fun i hi => absurd hi (Nat.not_lt_zero _)), hb1, hty_b1, hwb, hWk, hty_wb, hb8, hty_b8, ho, hsz, hB⟩
     ·
      rintro i el11 wl11 ⟨hkn, him1, hno, hb1, hty_b1, hwb, hWk, hty_wb, hb8, hty_b8, ho, hsz, hB⟩ ih11
      obtain ⟨e11, rfl⟩ := knows_env hkn
      refine r_seq (r_seq (r_region' (l_q (qmi rfl rfl) (l_q (q_fieldAddr (o' := 3) rfl fld38_3 rfl) (l_q (q_load Tryz.isAgg35 rfl ((hb1.has (o := 3) rfl)) rfl) (l_q (q_len rfl Tryz.underlying35 rfl rfl) (l_q (q_lss rfl rfl rfl) (l_nil (r_cond rfl (fun hc12 => ?_) (fun hc12 => ?_))))))))))
      ·
       replace hc12 := dt hc12
       have him : i < sl.length + 1 := by omega
       have hst := free_step (l := (lg co er se sl rl)) (p := p) (u := u) (b := ((i : Int) - 1)) (show p.length < rl.length by omega) ⟨by omega, by rw [lgJ]; omega⟩ (by rw [lgJ]; omega) hub
       rw [hpn] at hst
       refine r_skip (r_seq (r_block (r_seq (r_region' (l_q (q_move (v := .pointer _) rfl rfl) (l_q (qmi rfl rfl) (l_q (qmi rfl rfl) (l_q (q_load_agg (n := 8) Tryz.isAgg106 Tryz.sizeOf106 rfl ((hb8.cells0)) (by rw [List.length_map]; exact hub.1) rfl) (l_o (o_call Tryz.call78 rfl (free6_ret ka kc co er sa sc se ja jc sl ra rc rl wb m1 m2 R (rl.map (candL (lg co er se sl rl))) (n : Int) ((i : Int) - 1) u _ hwb hWk hub.1 (by omega)) rfl ?_))))))))))
       rintro _ w13 ⟨rfl, hE13⟩
       replace hB := below_ext hB hE13 hsz
       replace hb1 := hb1.ext hE13
       replace hty_b1 := hty_b1.ext hE13
       replace hwb := hwb.ext hE13
       replace hWk := hWk.ext hE13
       replace hty_wb := hty_wb.ext hE13
       replace hb8 := hb8.ext hE13
       replace hty_b8 := hty_b8.ext hE13
       replace ho := own_ext ho hE13
       replace hsz := Nat.le_trans hsz hE13.size
       refine l_q (q_move (v := .tuple _) rfl rfl) (l_q (q_extract (vs := [_, _]) (v := .agg _) rfl rfl rfl) (l_q (q_extract (vs := [_, _]) (v := .bool _) rfl rfl rfl) (l_o (o_alloct Tryz.zeroValue106 rfl rfl ?_))))
       intro b14 w14 hzl14 hzr14 _ hb14 hty_b14 hE14
       have hne_b1_b14 : b1 ≠ b14 := by have := hb1.lt; omega
       have hne_wb_b14 : wb ≠ b14 := by have := hwb.lt; omega
       have hne_b8_b14 : b8 ≠ b14 := by have := hb8.lt; omega
       have hmw_b14 : m2 < b14 := Nat.lt_of_lt_of_le hWk.lt hzl14
       have hbs_b14 : w.heap.size ≤ b14 := Nat.le_trans hsz hzl14
       replace hB := below_ext hB hE14 hsz
       replace hb1 := hb1.ext hE14
       replace hty_b1 := hty_b1.ext hE14
       replace hwb := hwb.ext hE14
       replace hWk := hWk.ext hE14
       replace hty_wb := hty_wb.ext hE14
       replace hb8 := hb8.ext hE14
       replace hty_b8 := hty_b8.ext hE14
       replace ho := own_ext ho hE14
       replace hsz := Nat.le_trans hsz hE14.size
       refine l_o (o_store_allt (cs' := (freeU (rl.map (candL (lg co er se sl rl))) (n : Int) ((i : Int) - 1) u).map Value.bool) Tryz.sizeOf106 rfl rfl hb14 (rfl) (by rw [List.length_map]; exact freeU_len hub.1) (all_one_map _ _ (fun _ => rfl)) rfl ?_)
       intro w15 hz15 hb14 hT15 hG15
       replace hB := below_upd hB hG15 hsz (by omega)
       replace hsz : w.heap.size ≤ w15.heap.size := by rw [hz15]; exact hsz
       replace hb1 := hb1.upd hG15 (by omega)
       replace hty_b1 := hty_b1.upd hG15 (by omega)
       replace hwb := hwb.upd hG15 (by omega)
       replace hWk := hWk.upd hG15 (by omega)
       replace hty_wb := hty_wb.upd hG15 (by omega)
       replace hb8 := hb8.upd hG15 (by omega)
       replace hty_b8 := hty_b8.upd hG15 (by omega)
       replace ho := own_ty_upd ho hty_b14 hG15 (by decide)
       replace hty_b14 := hT15 _ hty_b14
       refine l_q (qab rfl rfl) (l_nil (r_forget [(1, .pointer _), (5, .pointer _), (6, .int _ _), (7, .slice _ _ _), (8, .pointer _), (9, .int _ _), (10, .int _ _), (11, .pointer _), (12, .bool _), (28, .int _ _), (29, .int _ _)] ⟨rfl, rfl, rfl, rfl, rfl, rfl, rfl, rfl, rfl, rfl, rfl, trivial⟩ (fun e16 => (r_seq (r_seq (r_region' (l_q (qmb rfl rfl) (l_q (q_not rfl rfl) (l_nil (r_cond rfl (fun hc17 => ?_) (fun hc17 => ?_)))))))))))
       ·
        replace hc17 := nt hc17
        have hfo : freeOk (rl.map (candL (lg co er se sl rl))) (n : Int) ((i : Int) - 1) u = false := by have := hc17; simpa using this
        have hsn : stepB (canB (lg co er se sl rl)) p ((i : Int) - 1) = false := hst.symm.trans hfo
        refine r_exit rfl (r_region' (l_q (qmi rfl rfl) (l_q (q_add rfl rfl (by omega) rfl) (l_q (qai rfl rfl) (l_nil ?_)))))
        exact ih11 (i + 1) _ _ ⟨⟨rfl, rfl, rfl, rfl, rfl, rfl, (vint_eq (by omega)), rfl, rfl, trivial⟩, (by omega), (fun j hj => by rcases Nat.lt_succ_iff_lt_or_eq.1 hj with h | h; exact hno j h; subst h; exact take_no1 hsn), hb1, hty_b1, hwb, hWk, hty_wb, hb8, hty_b8, ho, hsz, hB⟩ (by first | omega | (dsimp only; omega))
       ·
        replace hc17 := nf hc17
        have hfo : freeOk (rl.map (candL (lg co er se sl rl))) (n : Int) ((i : Int) - 1) u = true := by have := hc17; simpa using this
        have hsy : stepB (canB (lg co er se sl rl)) p ((i : Int) - 1) = true := hst.symm.trans hfo
        refine r_skip (r_seq (r_region' (l_q (qmi rfl rfl) (l_q (qai rfl rfl) (l_nil (r_seq (r_seq (r_region' (l_q (qmi rfl rfl) (l_q (q_eql rfl rfl rfl) (l_nil (r_cond rfl (fun hc18 => ?_) (fun hc18 => ?_)))))))))))))
        ·
         replace hc18 := dt hc18
         have g51 := hc18
         refine r_region' (l_q (qmi rfl rfl) (l_q (q_sub rfl rfl (by omega) rfl) (l_q (qai rfl rfl) (l_nil (r_seq (r_region' (l_q (q_move (v := .pointer _) rfl rfl) (l_q (qmi rfl rfl) (l_q (q_add rfl rfl (by omega) rfl) (l_q (q_load_agg (n := 8) Tryz.isAgg106 Tryz.sizeOf106 rfl ((hb14.cells0)) (by rw [List.length_map]; exact freeU_len hub.1) rfl) ?_))))))))))
         have hfw := few6_ret ka kc co er sa sc se ja jc sl ra rc rl wb m1 m2 R none 0 [] hok (Nat.zero_le _) k2 (p ++ [((i : Int) - 1)]) (freeU (rl.map (candL (lg co er se sl rl))) (n : Int) ((i : Int) - 1) u) w15 hwb hWk (by simp only [List.length_append, List.length_cons, List.length_nil]; omega) (free_used (by omega) hub hfo) (Row.nil _ _ _ _)
         have hcast : (((p ++ [((i : Int) - 1)]).length : Nat) : Int) = (n : Int) + 1 := by simp only [List.length_append, List.length_cons, List.length_nil]; omega
         rw [hcast, outL_nil] at hfw
         refine l_o (o_call Tryz.call74 rfl (hfw) rfl ?_)
         rintro _ w19 ⟨rfl, hE19⟩
         replace hB := below_ext hB hE19 hsz
         replace hb1 := hb1.ext hE19
         replace hty_b1 := hty_b1.ext hE19
         replace hwb := hwb.ext hE19
         replace hWk := hWk.ext hE19
         replace hty_wb := hty_wb.ext hE19
         replace hb8 := hb8.ext hE19
         replace hty_b8 := hty_b8.ext hE19
         replace ho := own_ext ho hE19
         replace hb14 := hb14.ext hE19
         replace hty_b14 := hty_b14.ext hE19
         replace hsz := Nat.le_trans hsz hE19.size
         have hfr2 := few_rng (can := (canB (lg co er se sl rl))) (m := sl.length) (out := noB) (k := k2) (p := p ++ [((i : Int) - 1)]) (by omega)
         refine l_q (qmi rfl rfl) (l_q (q_eql rfl rfl rfl) (l_nil (r_forget [(1, .pointer _), (5, .pointer _), (6, .int _ _), (7, .slice _ _ _), (8, .pointer _), (9, .int _ _), (10, .int _ _), (11, .pointer _), (13, .int _ _), (28, .int _ _), (29, .int _ _), (60, .bool _)] ⟨rfl, rfl, rfl, rfl, rfl, rfl, rfl, rfl, rfl, rfl, rfl, rfl, trivial⟩ (fun e20 => (r_cond rfl (fun hc21 => ?_) (fun hc21 => ?_))))))
         ·
          replace hc21 := dt hc21
          have h60 := hc21
          refine r_seq (r_draw3 (ClsK.refl b14 ((freeU (rl.map (candL (lg co er se sl rl))) (n : Int) ((i : Int) - 1) u).map Value.bool)) (ClsK.trans b14 ((freeU (rl.map (candL (lg co er se sl rl))) (n : Int) ((i : Int) - 1) u).map Value.bool)) (.op 0 (.op 1 (.op 4 (.op 5 (.op 2 (.op 3 (.op 6 (.op 7 (.op 8 (.done)))))))))) [2, 3, 7] 4 (by kernel_rfl) (by kernel_rfl) ?_)
          intro w22 _ hE22
          replace hB := below_ext hB hE22 hsz
          replace hb1 := hb1.ext hE22
          replace hty_b1 := hty_b1.ext hE22
          replace hwb := hwb.ext hE22
          replace hWk := hWk.ext hE22
          replace hty_wb := hty_wb.ext hE22
          replace hb8 := hb8.ext hE22
          replace hty_b8 := hty_b8.ext hE22
          replace ho := own_ext ho hE22
          replace hb14 := hb14.ext hE22
          replace hty_b14 := hty_b14.ext hE22
          replace hsz := Nat.le_trans hsz hE22.size
          refine m_q3 rfl rfl (fun w' hC' => qms rfl rfl) (m_q3 rfl rfl (fun w' hC' => qmi rfl rfl) (m_q3 rfl rfl (fun w' hC' => q_load_agg (n := 8) Tryz.isAgg106 Tryz.sizeOf106 rfl (((hC' hb14).cells0)) (by rw [List.length_map]; exact freeU_len hub.1) rfl) (m_q3 rfl rfl (fun w' hC' => qmi rfl rfl) (m_o3 rfl rfl (o_buildSlice (el := 3) (cs := [vint ((i : Int) - 1)]) Tryz.underlying25 el3 (by decide) (by kernel_rfl) rfl (by decide) rfl ?_)))))
          intro b23 w23 hzl23 hzr23 _ hb23 hE23 ho23
          refine ⟨(ClsK.ext hE23), ?_⟩
          have hne_b1_b23 : b1 ≠ b23 := by have := hb1.lt; omega
          have hne_wb_b23 : wb ≠ b23 := by have := hwb.lt; omega
          have hne_b8_b23 : b8 ≠ b23 := by have := hb8.lt; omega
          have hne_b14_b23 : b14 ≠ b23 := by have := hb14.lt; omega
          have hmw_b23 : m2 < b23 := Nat.lt_of_lt_of_le hWk.lt hzl23
          have hbs_b23 : w.heap.size ≤ b23 := Nat.le_trans hsz hzl23
          replace hB := below_ext hB hE23 hsz
          replace hb1 := hb1.ext hE23
          replace hty_b1 := hty_b1.ext hE23
          replace hwb := hwb.ext hE23
          replace hWk := hWk.ext hE23
          replace hty_wb := hty_wb.ext hE23
          replace hb8 := hb8.ext hE23
          replace hty_b8 := hty_b8.ext hE23
          replace ho := own_ext ho hE23
          replace hb14 := hb14.ext hE23
          replace hty_b14 := hty_b14.ext hE23
          replace hsz := Nat.le_trans hsz hE23.size
          refine m_o3 rfl rfl (o_append_map (f := vint) (p) ([((i : Int) - 1)]) Tryz.underlying25 el3 rfl rfl ho rfl (Row.of_owns ho23) (fun _ => rfl) (by (try simp only [List.length_append, List.length_cons, List.length_nil, List.length_take, List.length_drop, List.length_replicate]); omega) (by omega) rfl ?_)
          intro a24 c24 w24 hz24 ho24 hG24
          refine ⟨fun h => h.step hG24 (own_ty_ne ho hty_b14 (by decide)), ?_⟩
          replace hB := below_own hB hG24 ho (by omega) hsz
          replace hsz := Nat.le_trans hsz hG24.size
          replace hb1 := hb1.step hG24 (own_ty_ne ho hty_b1 (by decide))
          replace hwb := hwb.step hG24 (own_ty_ne ho hty_wb (by decide))
          replace hWk := WkMaps.own hWk ho hG24
          replace hb8 := hb8.step hG24 (own_ty_ne ho hty_b8 (by decide))
          replace hb14 := hb14.step hG24 (own_ty_ne ho hty_b14 (by decide))
          replace hty_b1 := TyAt.own hty_b1 ho hG24 (by decide)
          replace hty_wb := TyAt.own hty_wb ho hG24 (by decide)
          replace hty_b8 := TyAt.own hty_b8 ho hG24 (by decide)
          replace hty_b14 := TyAt.own hty_b14 ho hG24 (by decide)
          refine m_q3 rfl rfl (fun w' hC' => qas rfl rfl) (m_o3 rfl rfl (o_store_allt (cs' := (freeU (rl.map (candL (lg co er se sl rl))) (n : Int) ((i : Int) - 1) u).map Value.bool) Tryz.sizeOf106 rfl rfl hb8 (by rw [List.length_map]; exact hub.1) (by rw [List.length_map]; exact freeU_len hub.1) (all_one_map _ _ (fun _ => rfl)) rfl ?_))
          intro w25 hz25 hb8 hT25 hG25
          refine ⟨fun h => h.upd hG25 (by omega), ?_⟩
          replace hB := below_upd hB hG25 hsz (by omega)
          replace hsz : w.heap.size ≤ w25.heap.size := by rw [hz25]; exact hsz
          replace hb1 := hb1.upd hG25 (by omega)
          replace hty_b1 := hty_b1.upd hG25 (by omega)
          replace hwb := hwb.upd hG25 (by omega)
          replace hWk := hWk.upd hG25 (by omega)
          replace hty_wb := hty_wb.upd hG25 (by omega)
          replace hb14 := hb14.upd hG25 (by omega)
          replace hty_b14 := hty_b14.upd hG25 (by omega)
          replace ho24 := own_ty_upd ho24 hty_b8 hG25 (by decide)
          replace hty_b8 := hT25 _ hty_b8
          refine m_q3 rfl rfl (fun w' hC' => qai rfl rfl) (m_nil3 (r_forget [(1, .pointer _), (5, .pointer _), (6, .int _ _), (7, .slice _ _ _), (8, .pointer _), (28, .int _ _), (29, .int _ _)] ⟨rfl, rfl, rfl, rfl, rfl, rfl, rfl, trivial⟩ (fun e26 => (r_exit rfl (r_inBlock (r_region' (l_q (q_add rfl rfl (by omega) rfl) (l_q (qmi rfl rfl) (l_nil ?_)))))))))
          exact ih9 ⟨n + 1, a24, c24, p ++ [((i : Int) - 1)], (freeU (rl.map (candL (lg co er se sl rl))) (n : Int) ((i : Int) - 1) u), v - 1⟩ _ _ ⟨⟨rfl, rfl, rfl, rfl, rfl, rfl, (vint_eq (by omega)), trivial⟩, (by omega), (by simp only [List.length_append, List.length_cons, List.length_nil]; omega), (free_used (by omega) hub hfo), (by rw [show rl.length - (n + 1) = k2 by omega]; exact h60), (by omega), (by rw [show rl.length - (n + 1) = k2 by omega, ← hext, hk2]; have e := ext_next him hno hsy (by rw [cost_1 g51]; exact h60); rw [cost_1 g51] at e; exact e.symm), ho24, hb8, hb1, hty_b1, hwb, hWk, hty_wb, hty_b8, hsz, hB⟩ (by first | omega | (dsimp only; omega))
         ·
          replace hc21 := df hc21
          have h60 := hc21
          refine r_skip (r_inBlock (r_region' (l_q (qmi rfl rfl) (l_q (q_add rfl rfl (by omega) rfl) (l_q (qai rfl rfl) (l_nil ?_))))))
          exact ih11 (i + 1) _ _ ⟨⟨rfl, rfl, rfl, rfl, rfl, rfl, (vint_eq (by omega)), rfl, rfl, trivial⟩, (by omega), (fun j hj => by rcases Nat.lt_succ_iff_lt_or_eq.1 hj with h | h; exact hno j h; subst h; exact take_no2 (by rw [cost_1 g51]; exact h60)), hb1, hty_b1, hwb, hWk, hty_wb, hb8, hty_b8, ho, hsz, hB⟩ (by first | omega | (dsimp only; omega))
        ·
         replace hc18 := df hc18
         have g51 := hc18
         refine r_skip (r_seq (r_region' (l_q (q_move (v := .pointer _) rfl rfl) (l_q (qmi rfl rfl) (l_q (q_add rfl rfl (by omega) rfl) (l_q (q_load_agg (n := 8) Tryz.isAgg106 Tryz.sizeOf106 rfl ((hb14.cells0)) (by rw [List.length_map]; exact freeU_len hub.1) rfl) ?_))))))
         have hfw := few6_ret ka kc co er sa sc se ja jc sl ra rc rl wb m1 m2 R none 0 [] hok (Nat.zero_le _) k2 (p ++ [((i : Int) - 1)]) (freeU (rl.map (candL (lg co er se sl rl))) (n : Int) ((i : Int) - 1) u) w15 hwb hWk (by simp only [List.length_append, List.length_cons, List.length_nil]; omega) (free_used (by omega) hub hfo) (Row.nil _ _ _ _)
         have hcast : (((p ++ [((i : Int) - 1)]).length : Nat) : Int) = (n : Int) + 1 := by simp only [List.length_append, List.length_cons, List.length_nil]; omega
         rw [hcast, outL_nil] at hfw
         refine l_o (o_call Tryz.call74 rfl (hfw) rfl ?_)
         rintro _ w27 ⟨rfl, hE27⟩
         replace hB := below_ext hB hE27 hsz
         replace hb1 := hb1.ext hE27
         replace hty_b1 := hty_b1.ext hE27
         replace hwb := hwb.ext hE27
         replace hWk := hWk.ext hE27
         replace hty_wb := hty_wb.ext hE27
         replace hb8 := hb8.ext hE27
         replace hty_b8 := hty_b8.ext hE27
         replace ho := own_ext ho hE27
         replace hb14 := hb14.ext hE27
         replace hty_b14 := hty_b14.ext hE27
         replace hsz := Nat.le_trans hsz hE27.size
         have hfr2 := few_rng (can := (canB (lg co er se sl rl))) (m := sl.length) (out := noB) (k := k2) (p := p ++ [((i : Int) - 1)]) (by omega)
         refine l_q (qmi rfl rfl) (l_q (q_eql rfl rfl rfl) (l_nil (r_forget [(1, .pointer _), (5, .pointer _), (6, .int _ _), (7, .slice _ _ _), (8, .pointer _), (9, .int _ _), (10, .int _ _), (11, .pointer _), (13, .int _ _), (28, .int _ _), (29, .int _ _), (60, .bool _)] ⟨rfl, rfl, rfl, rfl, rfl, rfl, rfl, rfl, rfl, rfl, rfl, rfl, trivial⟩ (fun e28 => (r_cond rfl (fun hc29 => ?_) (fun hc29 => ?_))))))
         ·
          replace hc29 := dt hc29
          have h60 := hc29
          refine r_seq (r_draw3 (ClsK.refl b14 ((freeU (rl.map (candL (lg co er se sl rl))) (n : Int) ((i : Int) - 1) u).map Value.bool)) (ClsK.trans b14 ((freeU (rl.map (candL (lg co er se sl rl))) (n : Int) ((i : Int) - 1) u).map Value.bool)) (.op 0 (.op 1 (.op 4 (.op 5 (.op 2 (.op 3 (.op 6 (.op 7 (.op 8 (.done)))))))))) [2, 3, 7] 4 (by kernel_rfl) (by kernel_rfl) ?_)
          intro w30 _ hE30
          replace hB := below_ext hB hE30 hsz
          replace hb1 := hb1.ext hE30
          replace hty_b1 := hty_b1.ext hE30
          replace hwb := hwb.ext hE30
          replace hWk := hWk.ext hE30
          replace hty_wb := hty_wb.ext hE30
          replace hb8 := hb8.ext hE30
          replace hty_b8 := hty_b8.ext hE30
          replace ho := own_ext ho hE30
          replace hb14 := hb14.ext hE30
          replace hty_b14 := hty_b14.ext hE30
          replace hsz := Nat.le_trans hsz hE30.size
          refine m_q3 rfl rfl (fun w' hC' => qms rfl rfl) (m_q3 rfl rfl (fun w' hC' => qmi rfl rfl) (m_q3 rfl rfl (fun w' hC' => q_load_agg (n := 8) Tryz.isAgg106 Tryz.sizeOf106 rfl (((hC' hb14).cells0)) (by rw [List.length_map]; exact freeU_len hub.1) rfl) (m_q3 rfl rfl (fun w' hC' => qmi rfl rfl) (m_o3 rfl rfl (o_buildSlice (el := 3) (cs := [vint ((i : Int) - 1)]) Tryz.underlying25 el3 (by decide) (by kernel_rfl) rfl (by decide) rfl ?_)))))
          intro b31 w31 hzl31 hzr31 _ hb31 hE31 ho31
          refine ⟨(ClsK.ext hE31), ?_⟩
          have hne_b1_b31 : b1 ≠ b31 := by have := hb1.lt; omega
          have hne_wb_b31 : wb ≠ b31 := by have := hwb.lt; omega
          have hne_b8_b31 : b8 ≠ b31 := by have := hb8.lt; omega
          have hne_b14_b31 : b14 ≠ b31 := by have := hb14.lt; omega
          have hmw_b31 : m2 < b31 := Nat.lt_of_lt_of_le hWk.lt hzl31
          have hbs_b31 : w.heap.size ≤ b31 := Nat.le_trans hsz hzl31
          replace hB := below_ext hB hE31 hsz
          replace hb1 := hb1.ext hE31
          replace hty_b1 := hty_b1.ext hE31
          replace hwb := hwb.ext hE31
          replace hWk := hWk.ext hE31
          replace hty_wb := hty_wb.ext hE31
          replace hb8 := hb8.ext hE31
          replace hty_b8 := hty_b8.ext hE31
          replace ho := own_ext ho hE31
          replace hty_b14 := hty_b14.ext hE31
          replace hsz := Nat.le_trans hsz hE31.size
          refine m_o3 rfl rfl (o_append_map (f := vint) (p) ([((i : Int) - 1)]) Tryz.underlying25 el3 rfl rfl ho rfl (Row.of_owns ho31) (fun _ => rfl) (by (try simp only [List.length_append, List.length_cons, List.length_nil, List.length_take, List.length_drop, List.length_replicate]); omega) (by omega) rfl ?_)
          intro a32 c32 w32 hz32 ho32 hG32
          refine ⟨fun h => h.step hG32 (own_ty_ne ho hty_b14 (by decide)), ?_⟩
          replace hB := below_own hB hG32 ho (by omega) hsz
          replace hsz := Nat.le_trans hsz hG32.size
          replace hb1 := hb1.step hG32 (own_ty_ne ho hty_b1 (by decide))
          replace hwb := hwb.step hG32 (own_ty_ne ho hty_wb (by decide))
          replace hWk := WkMaps.own hWk ho hG32
          replace hb8 := hb8.step hG32 (own_ty_ne ho hty_b8 (by decide))
          replace hty_b1 := TyAt.own hty_b1 ho hG32 (by decide)
          replace hty_wb := TyAt.own hty_wb ho hG32 (by decide)
          replace hty_b8 := TyAt.own hty_b8 ho hG32 (by decide)
          refine m_q3 rfl rfl (fun w' hC' => qas rfl rfl) (m_o3 rfl rfl (o_store_allt (cs' := (freeU (rl.map (candL (lg co er se sl rl))) (n : Int) ((i : Int) - 1) u).map Value.bool) Tryz.sizeOf106 rfl rfl hb8 (by rw [List.length_map]; exact hub.1) (by rw [List.length_map]; exact freeU_len hub.1) (all_one_map _ _ (fun _ => rfl)) rfl ?_))
          intro w33 hz33 hb8 hT33 hG33
          refine ⟨fun h => h.upd hG33 (by omega), ?_⟩
          replace hB := below_upd hB hG33 hsz (by omega)
          replace hsz : w.heap.size ≤ w33.heap.size := by rw [hz33]; exact hsz
          replace hb1 := hb1.upd hG33 (by omega)
          replace hty_b1 := hty_b1.upd hG33 (by omega)
          replace hwb := hwb.upd hG33 (by omega)
          replace hWk := hWk.upd hG33 (by omega)
          replace hty_wb := hty_wb.upd hG33 (by omega)
          replace ho32 := own_ty_upd ho32 hty_b8 hG33 (by decide)
          replace hty_b8 := hT33 _ hty_b8
          refine m_q3 rfl rfl (fun w' hC' => qai rfl rfl) (m_nil3 (r_forget [(1, .pointer _), (5, .pointer _), (6, .int _ _), (7, .slice _ _ _), (8, .pointer _), (28, .int _ _), (29, .int _ _)] ⟨rfl, rfl, rfl, rfl, rfl, rfl, rfl, trivial⟩ (fun e34 => (r_exit rfl (r_inBlock (r_region' (l_q (q_add rfl rfl (by omega) rfl) (l_q (qmi rfl rfl) (l_nil ?_)))))))))
          exact ih9 ⟨n + 1, a32, c32, p ++ [((i : Int) - 1)], (freeU (rl.map (candL (lg co er se sl rl))) (n : Int) ((i : Int) - 1) u), v⟩ _ _ ⟨⟨rfl, rfl, rfl, rfl, rfl, rfl, (vint_eq (by omega)), trivial⟩, (by omega), (by simp only [List.length_append, List.length_cons, List.length_nil]; omega), (free_used (by omega) hub hfo), (by rw [show rl.length - (n + 1) = k2 by omega]; exact h60), (by omega), (by rw [show rl.length - (n + 1) = k2 by omega, ← hext, hk2]; have e := ext_next him hno hsy (by rw [cost_0 g51, Int.sub_zero]; exact h60); rw [cost_0 g51, Int.sub_zero] at e; exact e.symm), ho32, hb8, hb1, hty_b1, hwb, hWk, hty_wb, hty_b8, hsz, hB⟩ (by first | omega | (dsimp only; omega))
         ·
          replace hc29 := df hc29
          have h60 := hc29
          refine r_skip (r_inBlock (r_region' (l_q (qmi rfl rfl) (l_q (q_add rfl rfl (by omega) rfl) (l_q (qai rfl rfl) (l_nil ?_))))))
          exact ih11 (i + 1) _ _ ⟨⟨rfl, rfl, rfl, rfl, rfl, rfl, (vint_eq (by omega)), rfl, rfl, trivial⟩, (by omega), (fun j hj => by rcases Nat.lt_succ_iff_lt_or_eq.1 hj with h | h; exact hno j h; subst h; exact take_no2 (by rw [cost_0 g51, Int.sub_zero]; exact h60)), hb1, hty_b1, hwb, hWk, hty_wb, hb8, hty_b8, ho, hsz, hB⟩ (by first | omega | (dsimp only; omega))
      ·
       replace hc12 := dlt hc12
       exact (ext_dead (by omega) hv hvr.2 (fun j hj => hno j (by omega))).elim
    ·
     replace hc10 := dlt hc10
     refine r_exit rfl (r_seq (r_region' (l_q (qms rfl rfl) (l_q (qas rfl rfl) (l_q (qai rfl rfl) (l_nil (r_ret_ (vs := [.slice _ _ _, .int _ _]) rfl Tryz.func36 rfl (.nil _) ⟨rfl, rfl, trivial⟩ ?_)))))))
     have hnn : rl.length - n = 0 := by omega
     rw [hnn] at hext
     refine ⟨oa, oc, ?_, ?_, Ext.of_below hB⟩ <;> rw [assign_ok hok h25 hext]
     · rfl
     · exact Row.of_owns ho
end Go.Proofs.YtekkdhpgcilpdaaGreat
