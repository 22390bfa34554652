/- Contracts. -/
import Derived.Test.YtbikicakdkbcgaaR2
set_option linter.unusedVariables false
set_option linter.unusedSimpArgs false
namespace Go.Proofs.Ytbikicakdkbcgaa
open Go Go.RowKit Go.Gv Go.Fl

theorem aft_len {pl : List PV} {wt : Nat} : ∀ (xs S : List Int), (aftL pl wt S xs).1.length = S.length
  | [], S => rfl
  | i :: l, S => by
    rw [aftL]
    split
    · rfl
    · rw [aft_len l]; simp [setD]
theorem getD_bnd {S : List Int} (h : ∀ v ∈ S, -1 ≤ v ∧ v ≤ 1000) (i : Nat) : -1 ≤ S.getD i 0 ∧ S.getD i 0 ≤ 1000 := by
  by_cases hi : i < S.length
  · exact h _ (getD_lt hi)
  · rw [List.getD_eq_getElem?_getD, List.getElem?_eq_none (by omega)]; decide
theorem aft_b {pl : List PV} {wt : Nat} : ∀ {xs S : List Int}, (∀ v ∈ S, -1 ≤ v ∧ v ≤ 1000) → wt ≤ 1000 → (∀ x ∈ pl, 0 ≤ x.m ∧ x.m ≤ 5) → ∀ v ∈ (aftL pl wt S xs).1, -1 ≤ v ∧ v ≤ 1000
  | [], S, h, _, _ => h
  | i :: l, S, h, hw, hm => by
    rw [aftL]
    split
    · exact h
    · rename_i hb
      refine aft_b (setD_b h (by omega) ?_) hw hm
      have h1 := getD_bnd h (0 + i.toNat * 2 + 1)
      have h2 : (pl.getD i.toNat pv0).m ≤ 5 := by
        by_cases hi : i.toNat < pl.length
        · exact (hm _ (getD_lt hi)).2
        · rw [List.getD_eq_getElem?_getD, List.getElem?_eq_none (by omega)]; decide
      unfold badD at hb
      simp only [Bool.or_eq_true, not_or, decide_eq_true_eq] at hb
      omega
def rulL (pl : List PV) : Nat → List Int → List (List Int) → Bool
  | _, _, [] => true
  | wt, S, on :: r => (aftL pl wt S on).2 && rulL pl (wt + 1) (aftL pl wt S on).1 r
theorem drop_map {R : List SV} {k : Nat} (h : k < R.length) : (R.drop k).map (·.xs) = (R.getD k sv0).xs :: (R.drop (k + 1)).map (·.xs) := by
  rw [drop_getD (d := sv0) h, List.map_cons]
theorem rul_ok {pl : List PV} {S : List Int} {R : List SV} {k : Nat} (h : k < R.length) (hb : (aftL pl k S (R.getD k sv0).xs).2 = true) : rulL pl k S ((R.drop k).map (·.xs)) = rulL pl (k + 1) (aftL pl k S (R.getD k sv0).xs).1 ((R.drop (k + 1)).map (·.xs)) := by
  rw [drop_map h, rulL, hb, Bool.true_and]
theorem rul_bad {pl : List PV} {S : List Int} {R : List SV} {k : Nat} (h : k < R.length) (hb : (aftL pl k S (R.getD k sv0).xs).2 = false) : rulL pl k S ((R.drop k).map (·.xs)) = false := by
  rw [drop_map h, rulL, hb, Bool.false_and]
def awkB (nn : Bool) (ix : List Int) (wt i : Int) : Bool := nn || (decide (ix.getD i.toNat 0 = -1) || decide (wt < ix.getD i.toNat 0))
def awkN (nn : Bool) (ix : List Int) (wt : Int) (xs : List Int) : Int := ((xs.filter (awkB nn ix wt)).length : Int)
theorem awk_yes {nn : Bool} {ix xs : List Int} {wt : Int} {k : Nat} (hk : k < xs.length) (h : awkB nn ix wt (xs.getD k 0) = true) : awkN nn ix wt (xs.take k) + 1 = awkN nn ix wt (xs.take (k + 1)) := by
  unfold awkN
  rw [take_succ_getD hk, List.filter_append, List.filter_cons_of_pos h, List.filter_nil, List.length_append, List.length_cons, List.length_nil]; omega
theorem awk_no {nn : Bool} {ix xs : List Int} {wt : Int} {k : Nat} (hk : k < xs.length) (h : awkB nn ix wt (xs.getD k 0) = false) : awkN nn ix wt (xs.take k) = awkN nn ix wt (xs.take (k + 1)) := by
  unfold awkN
  rw [take_succ_getD hk, List.filter_append, List.filter_cons_of_neg (by rw [h]; decide), List.filter_nil, List.append_nil]
theorem getD_last {L : List SV} : (L.getD L.length sv0) = sv0 := by rw [List.getD_eq_getElem?_getD, List.getElem?_eq_none (Nat.le_refl _)]; rfl
theorem ye_or {y : Bool} {A B : Prop} (h1 : y = true → A) (h2 : y = false → B) : A ∨ B := by
  cases y
  · exact .inr (h2 rfl)
  · exact .inl (h1 rfl)


theorem rules_ret (na : Option Addr) (nc : Nat) (nd : List Int) (pa : Option Addr) (pc : Nat) (pl : List PV) (ca : Option Addr) (cc : Nat) (L : List SV) (ra : Option Addr) (rc : Nat) (R : List SV) (w : World) (hpo : PoAt w na nc nd pa pc pl ca cc L) (hok : faultP (po nd pl L) = 0) (hR : Row w ra R.length rc 1 (R.map SV.enc)) (hRr : RowsI w R) (hRl : R.length ≤ nd.length) (hRon : ∀ s ∈ R, s.xs.length ≤ 8 ∧ ∀ i ∈ s.xs, 0 ≤ i ∧ i ≤ (pl.length : Int) - 1) : Ret Try.prog 28 [.agg ⟨[.slice na nd.length nc, .slice pa pl.length pc, .slice ca L.length cc]⟩, .slice ra R.length rc] w (fun v w' => v = .bool (rulL pl 0 stood0 (R.map (·.xs))) ∧ Ext w w') := by
 obtain ⟨⟨hn1, hn5⟩, ⟨hp1, hp4⟩, hL4, hnn, hpp, hLL⟩ := po_ok hok
 have hB := Below.refl w.heap.size w
 have hsz : w.heap.size ≤ w.heap.size := Nat.le_refl _
 refine ret_of_runs (args := [_, _]) Try.func28 rfl (Nat.le_of_ble_eq_true rfl) (by kernel_rfl) (r_seq (r_region' (l_o (o_box rfl rfl rfl ?_))))
 intro b1 w1 hzl1 hzr1 _ hb1 hE1
 have hbs_b1 : w.heap.size ≤ b1 := Nat.le_trans hsz hzl1
 replace hB := below_ext hB hE1 hsz
 replace hsz := Nat.le_trans hsz hE1.size
 refine l_q (qab rfl rfl) (l_nil (r_seq (r_region' (l_o (o_call Try.call18 rfl (begun_ret _) rfl ?_)))))
 rintro _ w2 ⟨rfl, hE2⟩
 replace hB := below_ext hB hE2 hsz
 replace hb1 := hb1.ext hE2
 replace hsz := Nat.le_trans hsz hE2.size
 refine l_o (o_alloc Try.zeroValue58 rfl rfl ?_)
 intro b3 w3 hzl3 hzr3 _ hb3 hE3
 have hne_b1_b3 : b1 ≠ b3 := by have := hb1.lt; omega
 have hbs_b3 : w.heap.size ≤ b3 := Nat.le_trans hsz hzl3
 replace hB := below_ext hB hE3 hsz
 replace hb1 := hb1.ext hE3
 replace hsz := Nat.le_trans hsz hE3.size
 refine l_o (o_store_all (cs' := (stood0).map vint) Try.sizeOf58 rfl rfl hb3 (rfl) (rfl) (all_one_map _ _ (fun _ => rfl)) rfl ?_)
 intro w4 hz4 hb3 hG4
 replace hB := below_upd hB hG4 hsz (by omega)
 replace hsz : w.heap.size ≤ w4.heap.size := by rw [hz4]; exact hsz
 replace hb1 := hb1.upd hG4 (by omega)
 refine l_q (qab rfl rfl) (l_nil (r_seq (r_seq ?_)))
 have hT := hb3
 refine r_region' (l_q (qms rfl rfl) (l_q (q_len rfl Try.underlying22 rfl rfl) (l_q (qmi rfl rfl) (l_nil (r_block (r_rounds (α := Nat × (List Int)) (fun ⟨k, S⟩ e wl => Knows e [(2, ptr b1 0), (5, ptr b3 0), (10, .slice ra R.length rc), (11, vint (R.length : Int)), (12, vint (k : Int))] ∧ (k ≤ R.length) ∧ (S.length = 8) ∧ (∀ v ∈ S, -1 ≤ v ∧ v ≤ 1000) ∧ (rulL pl 0 stood0 (R.map (·.xs)) = rulL pl k S ((R.drop k).map (·.xs))) ∧ (Blk wl b3 (S.map vint)) ∧ (Blk wl b1 [.slice na nd.length nc, .slice pa pl.length pc, .slice ca L.length cc]) ∧ (w.heap.size ≤ wl.heap.size) ∧ (Below w.heap.size w wl)) (fun ⟨k, S⟩ => R.length - k) (0, stood0) ?_ ?_))))))
 ·
  exact ⟨⟨rfl, rfl, rfl, rfl, rfl, trivial⟩, (Nat.zero_le _), rfl, (by decide), (by rw [List.drop_zero]), hT, hb1, hsz, hB⟩
 ·
  rintro ⟨k, S⟩ el5 wl5 ⟨hkn, hk, hS8, hSb, hA, hT, hb1, hsz, hB⟩ ih5
  obtain ⟨e5, rfl⟩ := knows_env hkn
  refine r_seq (r_region' (l_q (q_lss rfl rfl rfl) (l_nil (r_seq (r_cond rfl (fun hc6 => ?_) (fun hc6 => ?_))))))
  ·
   replace hc6 := dt hc6
   have hkR : k < R.length := by omega
   have hRk := hRon _ (getD_lt (l := R) (d := sv0) hkR)
   refine r_skip (r_seq (r_block (r_seq (r_region' (l_q (qmi rfl rfl) ?_)))))
   obtain ⟨b7, o7, ha7, hh7⟩ := (hR.below hB).at1 k ((R).getD k sv0) (getD_some (by omega))
   refine l_q (q_indexAddr1 Try.underlying22 Try.sizeOf26 rfl ha7 rfl (by omega) rfl) (l_q (q_load Try.isAgg26 rfl (hh7) rfl) (l_q (qai rfl rfl) (l_q (qas rfl rfl) (l_nil (r_seq (r_region' (l_q (q_load_agg (n := 3) Try.isAgg29 Try.sizeOf29 rfl ((hb1.cells' (cs' := [_, _, _]) 0 3 rfl)) rfl rfl) (l_q (q_load_agg (n := 8) Try.isAgg58 Try.sizeOf58 rfl ((hT.cells0)) (by rw [List.length_map]; (try simp only [List.length_set]); omega) rfl) (l_q (qmi rfl rfl) (l_q (qms rfl rfl) (l_o (o_call Try.call45 rfl (after_ret na nc nd pa pc pl ca cc L S k _ _ ((R.getD k sv0).xs) _ (hpo.below hB) hok (by omega) hSb (by omega) ((RowsI.get (hRr) (i := k) (by omega)).below hB) (by omega) hRk.2 hRk.1) rfl ?_))))))))))))
   rintro _ w8 ⟨rfl, hE8⟩
   replace hB := below_ext hB hE8 hsz
   replace hb1 := hb1.ext hE8
   replace hT := hT.ext hE8
   replace hsz := Nat.le_trans hsz hE8.size
   refine l_q (q_move (v := .tuple _) rfl rfl) (l_q (q_extract (vs := [_, _]) (v := .agg _) rfl rfl rfl) (l_q (q_extract (vs := [_, _]) (v := .bool _) rfl rfl rfl) (l_o (o_store_all (cs' := (aftL pl k S ((R.getD k sv0).xs)).1.map vint) Try.sizeOf58 rfl rfl hT (by rw [List.length_map]; (try simp only [List.length_set]); omega) (by rw [List.length_map, aft_len]; omega) (all_one_map _ _ (fun _ => rfl)) rfl ?_))))
   intro w9 hz9 hT hG9
   replace hB := below_upd hB hG9 hsz (by omega)
   replace hsz : w.heap.size ≤ w9.heap.size := by rw [hz9]; exact hsz
   replace hb1 := hb1.upd hG9 (by omega)
   refine l_q (qab rfl rfl) (l_nil (r_forget [(2, .pointer _), (5, .pointer _), (6, .bool _), (10, .slice _ _ _), (11, .int _ _), (12, .int _ _)] ⟨rfl, rfl, rfl, rfl, rfl, rfl, trivial⟩ (fun e10 => (r_seq (r_region' (l_q (qmb rfl rfl) (l_q (q_not rfl rfl) (l_nil (r_cond rfl (fun hc11 => ?_) (fun hc11 => ?_))))))))))
   ·
    replace hc11 := nt hc11
    have g25 := hc11
    refine r_seq (r_region' (l_q (qab rfl rfl) (l_nil (r_ret_ (vs := [.bool _]) rfl Try.func28 rfl (.nil _) ⟨rfl, trivial⟩ ?_))))
    exact ⟨vbool_eq (hA.trans (rul_bad hkR g25)).symm, Ext.of_below hB⟩
   ·
    replace hc11 := nf hc11
    have g25 := hc11
    refine r_skip (r_inBlock (r_region' (l_q (q_add rfl rfl (by omega) rfl) (l_q (qmi rfl rfl) (l_nil ?_)))))
    exact ih5 (k + 1, (aftL pl k S ((R.getD k sv0).xs)).1) _ _ ⟨⟨rfl, rfl, rfl, rfl, (vint_eq (by omega)), trivial⟩, (by omega), (by rw [aft_len]; omega), (aft_b hSb (by omega) (fun x hx => (hpp x hx).2.2)), (hA.trans (rul_ok hkR g25)), hT, hb1, hsz, hB⟩ (by first | omega | (dsimp only; omega))
  ·
   replace hc6 := dlt hc6
   refine r_exit rfl (r_seq (r_region' (l_q (qab rfl rfl) (l_nil (r_ret_ (vs := [.bool _]) rfl Try.func28 rfl (.nil _) ⟨rfl, trivial⟩ ?_)))))
   have hkk : k = R.length := by omega
   subst hkk
   exact ⟨vbool_eq (by rw [hA, List.drop_length]; rfl), Ext.of_below hB⟩
theorem awake10_ret (xa : Option Addr) (xc : Nat) (xs : List Int) (ia : Option Addr) (ic : Nat) (ix : List Int) (wt : Int) (w : World) (hx : Row w xa xs.length xc 1 (xs.map vint)) (hxn : xs.length ≤ 2097152) (hi : Row w ia ix.length ic 1 (ix.map vint)) (hil : ia.isNone = false → ∀ i ∈ xs, 0 ≤ i ∧ i < (ix.length : Int)) : Ret Try.prog 54 [.slice xa xs.length xc, .slice ia ix.length ic, vint wt] w (fun v w' => v = vint (awkN ia.isNone ix wt xs) ∧ Ext w w') := by
 have hB := Below.refl w.heap.size w
 have hsz : w.heap.size ≤ w.heap.size := Nat.le_refl _
 refine ret_of_runs (args := [_, _, _]) Try.func54 rfl (Nat.le_of_ble_eq_true rfl) (by kernel_rfl) (r_seq (r_region' (l_q (qai rfl rfl) (l_nil (r_seq (r_seq (r_region' (l_q (qms rfl rfl) (l_q (q_len rfl Try.underlying26 rfl rfl) (l_q (qmi rfl rfl) (l_nil (r_block (r_rounds (α := Nat × Int) (fun ⟨k, n⟩ e wl => Knows e [(1, .slice ia ix.length ic), (2, vint wt), (6, vint n), (9, .slice xa xs.length xc), (10, vint (xs.length : Int)), (11, vint (k : Int))] ∧ (k ≤ xs.length) ∧ (n = awkN ia.isNone ix wt (xs.take k)) ∧ (0 ≤ n ∧ n ≤ k) ∧ (w.heap.size ≤ wl.heap.size) ∧ (Below w.heap.size w wl)) (fun ⟨k, n⟩ => xs.length - k) (0, 0) ?_ ?_)))))))))))))
 ·
  exact ⟨⟨rfl, rfl, rfl, rfl, rfl, rfl, trivial⟩, (Nat.zero_le _), rfl, (by omega), hsz, hB⟩
 ·
  rintro ⟨k, n⟩ el1 wl1 ⟨hkn, hk, hn, hnb, hsz, hB⟩ ih1
  obtain ⟨e1, rfl⟩ := knows_env hkn
  refine r_seq (r_region' (l_q (q_lss rfl rfl rfl) (l_nil (r_seq (r_cond rfl (fun hc2 => ?_) (fun hc2 => ?_))))))
  ·
   replace hc2 := dt hc2
   have hkx : k < xs.length := by omega
   refine r_skip (r_seq (r_block (r_seq (r_region' ?_))))
   obtain ⟨b3, o3, ha3, hh3⟩ := (hx.below hB).at1 k ((xs).getD k 0) (getD_some (by omega))
   refine l_q (q_indexAddr1 Try.underlying26 Try.sizeOf3 rfl ha3 rfl (by omega) rfl) (l_q (q_load Try.isAgg3 rfl (hh3) rfl) (l_q (qai rfl rfl) (l_nil (r_seq (r_region' (l_q (qms rfl rfl) (l_q (q_eql_nil Try.underlying26 rfl rfl rfl) (l_q (qmb rfl rfl) (l_part 17 rfl (fun hc4 => ?_) (fun hc4 => ?_))))))))))
   ·
    have g17 := hc4
    refine l_q (q_skip rfl) (l_q (q_skip rfl) (l_q (q_skip rfl) (l_q (q_skip rfl) (l_q (q_skip rfl) (l_q (q_pick_t (v := .bool _) rfl rfl rfl) (l_q (qmb rfl rfl) (l_q (q_skip rfl) (l_q (q_skip rfl) (l_q (q_skip rfl) (l_q (q_skip rfl) (l_q (q_skip rfl) (l_q (q_skip rfl) (l_q (q_pick_t (v := .bool _) rfl rfl rfl) (l_nil (r_forget [(1, .slice _ _ _), (2, .int _ _), (6, .int _ _), (9, .slice _ _ _), (10, .int _ _), (11, .int _ _), (31, .bool _)] ⟨rfl, rfl, rfl, rfl, rfl, rfl, rfl, trivial⟩ (fun e5 => (r_cond_t rfl (r_region' (l_q (qmi rfl rfl) (l_q (q_add rfl rfl (by omega) rfl) (l_q (qai rfl rfl) (l_nil (r_inBlock (r_region' (l_q (q_add rfl rfl (by omega) rfl) (l_q (qmi rfl rfl) (l_nil ?_)))))))))))))))))))))))))))
    exact ih1 (k + 1, n + 1) _ _ ⟨⟨rfl, rfl, rfl, rfl, rfl, (vint_eq (by omega)), trivial⟩, (by omega), (by rw [hn]; first | exact awk_yes hkx (by unfold awkB; simp_all) | exact awk_no hkx (by unfold awkB; simp_all)), (by omega), hsz, hB⟩ (by first | omega | (dsimp only; omega))
   ·
    have g17 := hc4
    have hix := hil (by simpa using g17) _ (getD_lt (l := xs) (d := 0) hkx)
    refine l_q (qms rfl rfl) (l_q (qmi rfl rfl) ?_)
    obtain ⟨b6, o6, ha6, hh6⟩ := (hi.below hB).at1 ((xs).getD k 0).toNat ((ix).getD ((xs).getD k 0).toNat 0) (getD_some (by omega))
    refine l_q (q_indexAddr1 Try.underlying26 Try.sizeOf3 rfl ha6 rfl (by omega) rfl) (l_q (q_load Try.isAgg3 rfl (hh6) rfl) (l_q (q_eql rfl rfl rfl) (l_q (q_pick_f (v := .bool _) rfl rfl rfl) (l_q (qmb rfl rfl) (l_part 24 rfl (fun hc7 => ?_) (fun hc7 => ?_))))))
    ·
     replace hc7 := dt hc7
     have g24 := hc7
     refine l_q (q_skip rfl) (l_q (q_skip rfl) (l_q (q_skip rfl) (l_q (q_skip rfl) (l_q (q_skip rfl) (l_q (q_skip rfl) (l_q (q_pick_t (v := .bool _) rfl rfl rfl) (l_nil (r_forget [(1, .slice _ _ _), (2, .int _ _), (6, .int _ _), (9, .slice _ _ _), (10, .int _ _), (11, .int _ _), (31, .bool _)] ⟨rfl, rfl, rfl, rfl, rfl, rfl, rfl, trivial⟩ (fun e8 => (r_cond_t rfl (r_region' (l_q (qmi rfl rfl) (l_q (q_add rfl rfl (by omega) rfl) (l_q (qai rfl rfl) (l_nil (r_inBlock (r_region' (l_q (q_add rfl rfl (by omega) rfl) (l_q (qmi rfl rfl) (l_nil ?_))))))))))))))))))))
     exact ih1 (k + 1, n + 1) _ _ ⟨⟨rfl, rfl, rfl, rfl, rfl, (vint_eq (by omega)), trivial⟩, (by omega), (by rw [hn]; first | exact awk_yes hkx (by unfold awkB; simp_all) | exact awk_no hkx (by unfold awkB; simp_all)), (by omega), hsz, hB⟩ (by first | omega | (dsimp only; omega))
    ·
     replace hc7 := df hc7
     have g24 := hc7
     refine l_q (qms rfl rfl) (l_q (qmi rfl rfl) ?_)
     obtain ⟨b9, o9, ha9, hh9⟩ := (hi.below hB).at1 ((xs).getD k 0).toNat ((ix).getD ((xs).getD k 0).toNat 0) (getD_some (by omega))
     refine l_q (q_indexAddr1 Try.underlying26 Try.sizeOf3 rfl ha9 rfl (by omega) rfl) (l_q (q_load Try.isAgg3 rfl (hh9) rfl) (l_q (qmi rfl rfl) (l_q (q_gtr rfl rfl rfl) (l_q (q_pick_f (v := .bool _) rfl rfl rfl) (l_nil (r_forget [(1, .slice _ _ _), (2, .int _ _), (6, .int _ _), (9, .slice _ _ _), (10, .int _ _), (11, .int _ _), (31, .bool _)] ⟨rfl, rfl, rfl, rfl, rfl, rfl, rfl, trivial⟩ (fun e10 => (r_cond rfl (fun hc11 => ?_) (fun hc11 => ?_)))))))))
     ·
      replace hc11 := dt hc11
      have g31 := hc11
      refine r_region' (l_q (qmi rfl rfl) (l_q (q_add rfl rfl (by omega) rfl) (l_q (qai rfl rfl) (l_nil (r_inBlock (r_region' (l_q (q_add rfl rfl (by omega) rfl) (l_q (qmi rfl rfl) (l_nil ?_)))))))))
      exact ih1 (k + 1, n + 1) _ _ ⟨⟨rfl, rfl, rfl, rfl, rfl, (vint_eq (by omega)), trivial⟩, (by omega), (by rw [hn]; first | exact awk_yes hkx (by unfold awkB; simp_all) | exact awk_no hkx (by unfold awkB; simp_all)), (by omega), hsz, hB⟩ (by first | omega | (dsimp only; omega))
     ·
      replace hc11 := dlt hc11
      have g31 := hc11
      refine r_skip (r_inBlock (r_region' (l_q (q_add rfl rfl (by omega) rfl) (l_q (qmi rfl rfl) (l_nil ?_)))))
      exact ih1 (k + 1, n) _ _ ⟨⟨rfl, rfl, rfl, rfl, rfl, (vint_eq (by omega)), trivial⟩, (by omega), (by rw [hn]; first | exact awk_yes hkx (by unfold awkB; simp_all) | exact awk_no hkx (by unfold awkB; simp_all)), (by omega), hsz, hB⟩ (by first | omega | (dsimp only; omega))
  ·
   replace hc2 := dlt hc2
   refine r_exit rfl (r_seq (r_region' (l_q (qmi rfl rfl) (l_q (qai rfl rfl) (l_nil (r_ret_ (vs := [.int _ _]) rfl Try.func54 rfl (.nil _) ⟨rfl, trivial⟩ ?_))))))
   have hkk : k = xs.length := by omega
   subst hkk
   exact ⟨vint_eq (by rw [hn, List.take_length]), Ext.of_below hB⟩
theorem cases_ret (na : Option Addr) (nc : Nat) (nd : List Int) (pa : Option Addr) (pc : Nat) (pl : List PV) (ca : Option Addr) (cc : Nat) (L : List SV) (w : World) : Ret Try.prog 53 [.agg ⟨[.slice na nd.length nc, .slice pa pl.length pc, .slice ca L.length cc]⟩] w (fun v w' => ∃ b, v = .func (.func 72) ⟨[]⟩ ⟨[ptr b 0]⟩ ∧ w.heap.size ≤ b ∧ Blk w' b [.slice na nd.length nc, .slice pa pl.length pc, .slice ca L.length cc] ∧ Ext w w') := by
 have hB := Below.refl w.heap.size w
 have hsz : w.heap.size ≤ w.heap.size := Nat.le_refl _
 refine ret_of_runs (args := [_]) Try.func53 rfl (Nat.le_of_ble_eq_true rfl) (by kernel_rfl) (r_seq (r_region' (l_o (o_box rfl rfl rfl ?_))))
 intro b1 w1 hzl1 hzr1 _ hb1 hE1
 have hbs_b1 : w.heap.size ≤ b1 := Nat.le_trans hsz hzl1
 replace hB := below_ext hB hE1 hsz
 replace hsz := Nat.le_trans hsz hE1.size
 refine l_q (q_assign (v := .nilFunc) rfl rfl) (l_nil (r_seq (r_region' (l_q (q_makeFunc (v := .func _ ⟨[]⟩ ⟨[_]⟩) rfl rfl) (l_q (q_assign (v := .func _ _ _) rfl rfl) (l_nil (r_ret_ (vs := [.func _ _ _]) rfl Try.func53 rfl (.nil _) ⟨rfl, trivial⟩ ?_)))))))
 exact ⟨_, rfl, hbs_b1, hb1, Ext.of_below hB⟩
theorem cases1_ret (l b : Nat) (na : Option Addr) (nc : Nat) (nd : List Int) (pa : Option Addr) (pc : Nat) (pl : List PV) (ca : Option Addr) (cc : Nat) (L : List SV) (J : Nat → World → Prop) (E : World → Prop) (w : World) (hLl : L.length ≤ 2097152) (hbN : b < w.heap.size) (h0 : J 0 w) (hJb : ∀ k w, J k w → Blk w b [.slice na nd.length nc, .slice pa pl.length pc, .slice ca L.length cc] ∧ Row w ca L.length cc 1 (L.map SV.enc) ∧ RowsI w L) (hy : ∀ k w1, k ≤ L.length → J k w1 → w.heap.size ≤ w1.heap.size → YieldAt Try.prog l [vint (k : Int), (L.getD k sv0).enc] w1 (fun v w2 => ∃ y : Bool, v = .bool y ∧ (y = true → J (k + 1) w2) ∧ (y = false → E w2) ∧ w1.heap.size ≤ w2.heap.size)) : Ret Try.prog 72 [.func (.yield l) ⟨[]⟩ ⟨[]⟩, ptr b 0] w (fun v w' => J (L.length + 1) w' ∨ E w') := by
 have hJ := h0
 have hsz : w.heap.size ≤ w.heap.size := Nat.le_refl _
 refine ret_of_runs (args := [_, _]) Try.func72 rfl (Nat.le_of_ble_eq_true rfl) (by kernel_rfl) (r_seq (r_seq (r_region' (l_q (q_fieldAddr (o' := 2) rfl fld29_2 rfl) (l_q (q_load Try.isAgg22 rfl (((hJb _ _ hJ).1.has (o := 2) rfl)) rfl) (l_q (q_len rfl Try.underlying22 rfl rfl) (l_q (qmi rfl rfl) (l_nil (r_block (r_rounds (α := Nat) (fun k e wl => Knows e [(0, .func (.yield l) ⟨[]⟩ ⟨[]⟩), (1, ptr b 0), (6, .slice ca L.length cc), (7, vint (L.length : Int)), (8, vint (k : Int))] ∧ (k ≤ L.length) ∧ (J k wl) ∧ (w.heap.size ≤ wl.heap.size)) (fun k => L.length - k) 0 ?_ ?_))))))))))
 ·
  exact ⟨⟨rfl, rfl, rfl, rfl, rfl, trivial⟩, (Nat.zero_le _), hJ, hsz⟩
 ·
  rintro k el1 wl1 ⟨hkn, hkk, hJ, hsz⟩ ih1
  obtain ⟨e1, rfl⟩ := knows_env hkn
  refine r_seq (r_region' (l_q (q_lss rfl rfl rfl) (l_nil (r_seq (r_cond rfl (fun hc2 => ?_) (fun hc2 => ?_))))))
  ·
   replace hc2 := dt hc2
   refine r_skip (r_seq (r_block (r_seq (r_region' (l_q (qmi rfl rfl) ?_)))))
   obtain ⟨b3, o3, ha3, hh3⟩ := (hJb _ _ hJ).2.1.at1 k ((L).getD k sv0) (getD_some (by omega))
   refine l_q (q_indexAddr1 Try.underlying22 Try.sizeOf26 rfl ha3 rfl (by omega) rfl) (l_q (q_load Try.isAgg26 rfl (hh3) rfl) (l_q (qai rfl rfl) (l_q (qas rfl rfl) (l_nil (r_seq (r_region' (l_q (q_move (v := .func (.yield l) ⟨[]⟩ ⟨[]⟩) rfl rfl) (l_q (qmi rfl rfl) (l_q (qms rfl rfl) (l_o (o_yield rfl rfl (hy k _ (by omega) hJ (by omega)) rfl ?_)))))))))))
   rintro _ w4 ⟨y4, rfl, hJy, hEy, hzy⟩
   replace hsz := Nat.le_trans hsz hzy
   refine l_q (q_not rfl rfl) (l_nil (r_forget [(0, .func (.yield l) ⟨[]⟩ ⟨[]⟩), (1, .pointer _), (6, .slice _ _ _), (7, .int _ _), (8, .int _ _), (17, .bool _)] ⟨rfl, rfl, rfl, rfl, rfl, rfl, trivial⟩ (fun e5 => (r_cond rfl (fun hc6 => ?_) (fun hc6 => ?_)))))
   ·
    replace hc6 := nt hc6
    have hE2 := hEy hc6
    refine r_ret_ (vs := []) rfl Try.func72 rfl (.nil _) trivial ?_
    exact .inr hE2
   ·
    replace hc6 := nf hc6
    have hJn := hJy hc6
    refine r_skip (r_inBlock (r_region' (l_q (q_add rfl rfl (by omega) rfl) (l_q (qmi rfl rfl) (l_nil ?_)))))
    exact ih1 (k + 1) _ _ ⟨⟨rfl, rfl, rfl, rfl, by first | rfl | exact vint_eq (by omega), trivial⟩, (by omega), hJn, hsz⟩ (by first | omega | (dsimp only; omega))
  ·
   replace hc2 := dlt hc2
   refine r_exit rfl (r_region' (l_q (q_move (v := .func (.yield l) ⟨[]⟩ ⟨[]⟩) rfl rfl) (l_q (q_fieldAddr (o' := 2) rfl fld29_2 rfl) (l_q (q_load Try.isAgg22 rfl (((hJb _ _ hJ).1.has (o := 2) rfl)) rfl) (l_q (q_len rfl Try.underlying22 rfl rfl) (l_o (o_yield rfl rfl ((by have hkk : k = L.length := (by omega); rw [hkk] at hJ; have h := hy L.length _ (Nat.le_refl _) hJ (by omega); rw [getD_last] at h; exact h)) rfl ?_)))))))
   rintro _ w7 ⟨y7, rfl, hJy, hEy, hzy⟩
   replace hsz := Nat.le_trans hsz hzy
   refine l_nil (r_forget [] trivial (fun e8 => (r_end_ (vs := []) rfl Try.func72 rfl (.nil _) trivial ?_)))
   exact ye_or hJy hEy
end Go.Proofs.Ytbikicakdkbcgaa
