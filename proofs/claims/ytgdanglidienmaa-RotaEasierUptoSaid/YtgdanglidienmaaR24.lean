/- Contracts. -/
import Derived.Test.YtgdanglidienmaaRT
import Derived.Test.YtgdanglidienmaaGvPut
set_option linter.unusedVariables false
set_option linter.unusedSimpArgs false
namespace Go.Proofs.Ytgdanglidienmaa
open Go Go.RowKit Go.Gv Go.Fl

theorem ris_up {l : List Int} {a b : Int} (h : risB l a = true) (hab : a ≤ b) : risB l b = true := by
  rw [ris_iff] at h ⊢
  exact ⟨h.1, fun x hx => ⟨(h.2 x hx).1, by have := (h.2 x hx).2; omega⟩⟩
section
variable {nd md : List Int} {pl ql : List PV} {L D : List SV}
/-- with fewer safe rotas the best one has no fewer duties, and the smallest set is no shorter -/
theorem hard_facts (hok : faultP (po nd pl L) = 0) (hok2 : faultP (po md ql D) = 0) (hln : ql.length ≤ pl.length) (hH : ∀ R, IsR md ql.length R → chn md ql (D.map (·.xs)) 0 stood0 R = true → IsR nd pl.length R ∧ chn nd pl (L.map (·.xs)) 0 stood0 R = true) (h10 : ¬ (bestR md ql D).2.2 = 10) :
    (bestR nd pl L).2.2 = 0 ∧ (bestR nd pl L).2.1 ≤ (bestR md ql D).2.1 ∧ (enoughR nd pl L).2.length ≤ (enoughR md ql D).2.length := by
  have hf0 : (bestR md ql D).2.2 = 0 := by
    rcases (best_enough hok2).2 with h | h
    · exact h
    · exact absurd h h10
  obtain ⟨hI, hc, hd, _⟩ := bst_yes hok2 hf0
  obtain ⟨hI2, hc2⟩ := hH _ hI hc
  have he0 : (bestR nd pl L).2.2 = 0 := by
    rcases best_spec hok with ⟨_, h⟩ | ⟨R, h, _⟩
    · rw [h _ hI2] at hc2; cases hc2
    · rw [h]
  obtain ⟨_, _, hd2, hmin⟩ := bst_yes hok he0
  refine ⟨he0, ?_, ?_⟩
  · rw [hd, hd2]
    rcases hmin _ hI2 hc2 with h | h
    · exact Int.le_of_lt h
    · exact Int.le_of_eq h.1
  · rcases enough_spec hok2 with ⟨_, h2⟩ | ⟨l', h1, h2, h3, _⟩
    · rw [h2 _ hI] at hc; cases hc
    · rcases enough_spec hok with ⟨_, h5⟩ | ⟨l, h4, h5, h6, h7⟩
      · rw [h5 _ hI2] at hc2; cases hc2
      · obtain ⟨R, hR, hRl, hcR⟩ := (can_iff hok2 h2).1 h3
        obtain ⟨hR2, hcR2⟩ := hH R hR hcR
        have h9 := ris_up (b := (pl.length : Int)) h2 (by omega)
        have h8 := h7 l' h9 ((can_iff hok h9).2 ⟨R, hR2, hRl, hcR2⟩)
        rw [h1, h4]
        show l.length ≤ l'.length
        rw [ltL_dec, Bool.or_eq_false_iff, decide_eq_false_iff_not] at h8
        omega
/-- more cases, more needs: fewer rotas are safe -/
theorem chn_mono {C C' R : List (List Int)} {S : List Int} (hn : ∀ k, nd.getD k 0 ≤ md.getD k 0) (hC : ∀ l ∈ C, l ∈ C') (h : chn md pl C' 0 S R = true) : chn nd pl C 0 S R = true := by
  rw [chn_eq, Bool.and_eq_true, List.all_eq_true] at h ⊢
  refine ⟨h.1, fun k hk => ?_⟩
  have h1 := h.2 k hk
  have h2 := hn (0 + k)
  unfold holdsP at h1 ⊢
  rw [Bool.and_eq_true, List.all_eq_true, decide_eq_true_eq] at h1 ⊢
  exact ⟨fun l hl => decide_eq_true (Int.le_trans h2 (of_decide_eq_true (h1.1 l (hC l hl)))), Int.le_trans h2 h1.2⟩
theorem fault_set {k : Nat} {v : Int} (h : faultP (po nd pl L) = 0) (hv : okNeed v = true) : faultP (po (nd.set k v) pl L) = 0 := by
  unfold faultP po at h ⊢
  dsimp only at h ⊢
  rw [List.length_set]
  split at h
  · cases h
  · rename_i h1
    rw [if_neg h1]
    split at h
    · rename_i h2
      rw [if_pos]
      simp only [Bool.and_eq_true] at h2 ⊢
      refine ⟨⟨⟨h2.1.1.1, ?_⟩, h2.1.2⟩, h2.2⟩
      rw [List.all_eq_true]
      intro x hx
      rcases List.mem_or_eq_of_mem_set hx with h3 | rfl
      · exact List.all_eq_true.1 h2.1.1.2 x h3
      · exact hv
    · cases h
theorem need_le {k : Nat} (h : faultP (po nd pl L) = 0) (hk : k < nd.length) (j : Nat) : nd.getD j 0 ≤ (nd.set k (min 2 (nd.getD k 0 + 1))).getD j 0 := by
  have h1 := (po_ok h).2.2.2.1 (nd.getD k 0) (getD_lt hk)
  rw [getD_set]
  split
  · rename_i h2
    rw [← h2.1]; omega
  · exact Int.le_refl _
end


theorem harder10_ret (ma : Option Addr) (mc : Nat) (md : List Int) (qa : Option Addr) (qc : Nat) (ql : List PV) (da : Option Addr) (dc : Nat) (D : List SV) (na : Option Addr) (nc : Nat) (nd : List Int) (pa : Option Addr) (pc : Nat) (pl : List PV) (ca : Option Addr) (cc : Nat) (L : List SV) (w : World) (hpo2 : PoAt w ma mc md qa qc ql da dc D) (hbg2 : PoBig md ql D) (hpo : PoAt w na nc nd pa pc pl ca cc L) (hbg : PoBig nd pl L) (hok : faultP (po nd pl L) = 0) (hok2 : faultP (po md ql D) = 0) (hln : ql.length ≤ pl.length) (hH : ∀ R, IsR md ql.length R → chn md ql (D.map (·.xs)) 0 stood0 R = true → IsR nd pl.length R ∧ chn nd pl (L.map (·.xs)) 0 stood0 R = true) : Ret Try.prog 9 [.agg ⟨[.slice ma md.length mc, .slice qa ql.length qc, .slice da D.length dc]⟩, .agg ⟨[.slice na nd.length nc, .slice pa pl.length pc, .slice ca L.length cc]⟩] w (fun v w' => v = .bool true ∧ Ext w w') := by
 have hB := Below.refl w.heap.size w
 have hsz : w.heap.size ≤ w.heap.size := Nat.le_refl _
 refine ret_of_runs (args := [_, _]) Try.func9 rfl (Nat.le_of_ble_eq_true rfl) (by kernel_rfl) ?_
 refine r_seq (r_region' ?_)
 refine l_o (o_box rfl rfl rfl ?_)
 intro b1 w1 hzl1 hzr1 _ hb1 hE1
 have hbs_b1 : w.heap.size ≤ b1 := Nat.le_trans hsz hzl1
 replace hB := below_ext hB hE1 hsz
 replace hsz := Nat.le_trans hsz hE1.size
 refine l_o (o_box rfl rfl rfl ?_)
 intro b2 w2 hzl2 hzr2 _ hb2 hE2
 have hbs_b2 : w.heap.size ≤ b2 := Nat.le_trans hsz hzl2
 replace hB := below_ext hB hE2 hsz
 replace hb1 := hb1.ext hE2
 replace hsz := Nat.le_trans hsz hE2.size
 refine l_q (q_assign (v := .bool _) rfl rfl) ?_
 refine l_nil (r_seq (r_region' ?_))
 refine l_q (q_load_agg (n := 3) Try.isAgg26 Try.sizeOf26 rfl ((hb2.cells' (cs' := [_, _, _]) 0 3 rfl)) rfl rfl) ?_
 refine l_o (o_call Try.call31 rfl (post10_ret na nc nd pa pc pl ca cc L _ (hpo.below hB) hbg) rfl ?_)
 rintro _ w3 ⟨pna3, pnc3, ppa3, ppc3, ppl3, pca3, pcc3, pL3, rfl, hpo3, hpp3, hpL3, hE3⟩
 replace hB := below_ext hB hE3 hsz
 replace hb1 := hb1.ext hE3
 replace hb2 := hb2.ext hE3
 replace hsz := Nat.le_trans hsz hE3.size
 have hbg3 := post_big hpp3 hpL3 hbg
 refine l_o (o_call Try.call18 rfl ((by have h := best_ret pna3 pnc3 nd ppa3 ppc3 ppl3 pca3 pcc3 pL3 _ hpo3 hbg3.1 hbg3.2.1 hbg3.2.2.1 hbg3.2.2.2.1; rw [best_pn hpp3 hpL3] at h; exact h)) rfl ?_)
 rintro _ w4 ⟨ra4, rc4, R4, rfl, hRo4, hRs4, hRm4, hE4⟩
 replace hB := below_ext hB hE4 hsz
 replace hb1 := hb1.ext hE4
 replace hb2 := hb2.ext hE4
 replace hsz := Nat.le_trans hsz hE4.size
 have hR4 := Row.of_owns hRo4
 have hRr4 := hRs4.rows
 refine l_q (q_move (v := .tuple _) rfl rfl) ?_
 refine l_q (q_extract (vs := [_, _, _]) (v := .slice _ _ _) rfl rfl rfl) ?_
 refine l_q (q_extract (vs := [_, _, _]) (v := .int _ _) rfl rfl rfl) ?_
 refine l_q (q_extract (vs := [_, _, _]) (v := .int _ _) rfl rfl rfl) ?_
 refine l_q (q_assign (v := .slice _ _ _) rfl rfl) ?_
 refine l_q (q_assign (v := .int _ _) rfl rfl) ?_
 refine l_q (q_assign (v := .int _ _) rfl rfl) ?_
 refine l_nil ?_
 refine r_forget [(2, .pointer _), (3, .pointer _), (6, .int _ _), (7, .int _ _)] ⟨rfl, rfl, rfl, rfl, trivial⟩ (fun e5 => ?_)
 refine r_seq (r_region' ?_)
 refine l_q (q_load_agg (n := 3) Try.isAgg26 Try.sizeOf26 rfl ((hb1.cells' (cs' := [_, _, _]) 0 3 rfl)) rfl rfl) ?_
 refine l_o (o_call Try.call31 rfl (post10_ret ma mc md qa qc ql da dc D _ (hpo2.below hB) hbg2) rfl ?_)
 rintro _ w6 ⟨pna6, pnc6, ppa6, ppc6, ppl6, pca6, pcc6, pL6, rfl, hpo6, hpp6, hpL6, hE6⟩
 replace hB := below_ext hB hE6 hsz
 replace hb1 := hb1.ext hE6
 replace hb2 := hb2.ext hE6
 replace hsz := Nat.le_trans hsz hE6.size
 have hbg6 := post_big hpp6 hpL6 hbg2
 refine l_o (o_call Try.call18 rfl ((by have h := best_ret pna6 pnc6 md ppa6 ppc6 ppl6 pca6 pcc6 pL6 _ hpo6 hbg6.1 hbg6.2.1 hbg6.2.2.1 hbg6.2.2.2.1; rw [best_pn hpp6 hpL6] at h; exact h)) rfl ?_)
 rintro _ w7 ⟨ra7, rc7, R7, rfl, hRo7, hRs7, hRm7, hE7⟩
 replace hB := below_ext hB hE7 hsz
 replace hb1 := hb1.ext hE7
 replace hb2 := hb2.ext hE7
 replace hsz := Nat.le_trans hsz hE7.size
 have hR7 := Row.of_owns hRo7
 have hRr7 := hRs7.rows
 refine l_q (q_move (v := .tuple _) rfl rfl) ?_
 refine l_q (q_extract (vs := [_, _, _]) (v := .slice _ _ _) rfl rfl rfl) ?_
 refine l_q (q_extract (vs := [_, _, _]) (v := .int _ _) rfl rfl rfl) ?_
 refine l_q (q_extract (vs := [_, _, _]) (v := .int _ _) rfl rfl rfl) ?_
 refine l_q (q_assign (v := .slice _ _ _) rfl rfl) ?_
 refine l_q (q_assign (v := .int _ _) rfl rfl) ?_
 refine l_q (q_assign (v := .int _ _) rfl rfl) ?_
 refine l_nil (r_seq (r_region' ?_))
 refine l_q (q_load_agg (n := 3) Try.isAgg26 Try.sizeOf26 rfl ((hb2.cells' (cs' := [_, _, _]) 0 3 rfl)) rfl rfl) ?_
 refine l_o (o_call Try.call31 rfl (post10_ret na nc nd pa pc pl ca cc L _ (hpo.below hB) hbg) rfl ?_)
 rintro _ w8 ⟨pna8, pnc8, ppa8, ppc8, ppl8, pca8, pcc8, pL8, rfl, hpo8, hpp8, hpL8, hE8⟩
 replace hB := below_ext hB hE8 hsz
 replace hb1 := hb1.ext hE8
 replace hsz := Nat.le_trans hsz hE8.size
 have hbg8 := post_big hpp8 hpL8 hbg
 refine l_o (o_call Try.call24 rfl ((by have h := enough_ret pna8 pnc8 nd ppa8 ppc8 ppl8 pca8 pcc8 pL8 _ hpo8 hbg8.1 hbg8.2.1 hbg8.2.2.1 hbg8.2.2.2.1; rw [enough_pn hpp8 hpL8] at h; exact h)) rfl ?_)
 rintro _ w9 ⟨ea9, ec9, rfl, he9, hE9⟩
 replace hB := below_ext hB hE9 hsz
 replace hb1 := hb1.ext hE9
 replace hsz := Nat.le_trans hsz hE9.size
 refine l_q (q_move (v := .tuple _) rfl rfl) ?_
 refine l_q (q_extract (vs := [_, _]) (v := .slice _ _ _) rfl rfl rfl) ?_
 refine l_q (q_extract (vs := [_, _]) (v := .int _ _) rfl rfl rfl) ?_
 refine l_q (q_assign (v := .slice _ _ _) rfl rfl) ?_
 refine l_q (q_assign (v := .int _ _) rfl rfl) ?_
 refine l_nil ?_
 refine r_forget [(2, .pointer _), (6, .int _ _), (7, .int _ _), (9, .int _ _), (10, .int _ _), (11, .slice _ _ _), (12, .int _ _)] ⟨rfl, rfl, rfl, rfl, rfl, rfl, rfl, trivial⟩ (fun e10 => ?_)
 refine r_seq (r_region' ?_)
 refine l_q (q_load_agg (n := 3) Try.isAgg26 Try.sizeOf26 rfl ((hb1.cells' (cs' := [_, _, _]) 0 3 rfl)) rfl rfl) ?_
 refine l_o (o_call Try.call31 rfl (post10_ret ma mc md qa qc ql da dc D _ (hpo2.below hB) hbg2) rfl ?_)
 rintro _ w11 ⟨pna11, pnc11, ppa11, ppc11, ppl11, pca11, pcc11, pL11, rfl, hpo11, hpp11, hpL11, hE11⟩
 replace hB := below_ext hB hE11 hsz
 replace hsz := Nat.le_trans hsz hE11.size
 have hbg11 := post_big hpp11 hpL11 hbg2
 refine l_o (o_call Try.call24 rfl ((by have h := enough_ret pna11 pnc11 md ppa11 ppc11 ppl11 pca11 pcc11 pL11 _ hpo11 hbg11.1 hbg11.2.1 hbg11.2.2.1 hbg11.2.2.2.1; rw [enough_pn hpp11 hpL11] at h; exact h)) rfl ?_)
 rintro _ w12 ⟨ea12, ec12, rfl, he12, hE12⟩
 replace hB := below_ext hB hE12 hsz
 replace hsz := Nat.le_trans hsz hE12.size
 refine l_q (q_move (v := .tuple _) rfl rfl) ?_
 refine l_q (q_extract (vs := [_, _]) (v := .slice _ _ _) rfl rfl rfl) ?_
 refine l_q (q_extract (vs := [_, _]) (v := .int _ _) rfl rfl rfl) ?_
 refine l_q (q_assign (v := .slice _ _ _) rfl rfl) ?_
 refine l_q (q_assign (v := .int _ _) rfl rfl) ?_
 refine l_nil (r_seq (r_seq (r_region' ?_)))
 refine l_q (q_move (v := .int _ _) rfl rfl) ?_
 refine l_q (q_move (v := .int _ _) rfl rfl) ?_
 refine l_q (q_neq rfl rfl rfl) ?_
 refine l_q (q_move (v := .bool _) rfl rfl) ?_
 have hk13 : (!decide (((bestR nd pl L).2.2) = ((enoughR nd pl L).1))) = false := by rw [(best_enough hok).1]; simp
 refine l_part 44 rfl (fun hx => absurd (hk13.symm.trans hx) (by decide)) (fun _ => ?_)
 refine l_q (q_move (v := .int _ _) rfl rfl) ?_
 refine l_q (q_move (v := .int _ _) rfl rfl) ?_
 refine l_q (q_neq rfl rfl rfl) ?_
 refine l_q (q_pick_f (v := .bool _) rfl rfl rfl) ?_
 refine l_q (q_move (v := .bool _) rfl rfl) ?_
 have hk14 : (!decide (((bestR md ql D).2.2) = ((enoughR md ql D).1))) = false := by rw [(best_enough hok2).1]; simp
 refine l_part 49 rfl (fun hx => absurd (hk14.symm.trans hx) (by decide)) (fun _ => ?_)
 refine l_q (q_move (v := .int _ _) rfl rfl) ?_
 refine l_q (q_neq rfl rfl rfl) ?_
 refine l_q (q_move (v := .bool _) rfl rfl) ?_
 refine l_part 52 rfl (fun hc15 => ?_) (fun hc15 => ?_)
 ·
  replace hc15 := df (nt hc15)
  have hq1 := hc15
  refine l_q (q_move (v := .int _ _) rfl rfl) ?_
  refine l_q (q_neq rfl rfl rfl) ?_
  refine l_q (q_pick_t (v := .bool _) rfl rfl rfl) ?_
  refine l_q (q_pick_f (v := .bool _) rfl rfl rfl) ?_
  refine l_q (q_move (v := .bool _) rfl rfl) ?_
  have hk16 : (!decide (((bestR nd pl L).2.2) = 10)) = false := by first | rfl | (rcases (best_enough hok).2 with h | h; exact absurd h hq1; rw [h]; rfl)
  refine l_part 57 rfl (fun hx => absurd (hk16.symm.trans hx) (by decide)) (fun _ => ?_)
  refine l_q (q_move (v := .int _ _) rfl rfl) ?_
  refine l_q (q_neq rfl rfl rfl) ?_
  refine l_q (q_move (v := .bool _) rfl rfl) ?_
  refine l_part 60 rfl (fun hc17 => ?_) (fun hc17 => ?_)
  ·
   replace hc17 := df (nt hc17)
   have hq2 := hc17
   refine l_q (q_move (v := .int _ _) rfl rfl) ?_
   refine l_q (q_neq rfl rfl rfl) ?_
   refine l_q (q_pick_t (v := .bool _) rfl rfl rfl) ?_
   refine l_q (q_pick_f (v := .bool _) rfl rfl rfl) ?_
   refine l_nil ?_
   refine r_forget [(6, .int _ _), (7, .int _ _), (9, .int _ _), (10, .int _ _), (11, .slice _ _ _), (13, .slice _ _ _), (64, .bool _)] ⟨rfl, rfl, rfl, rfl, rfl, rfl, rfl, trivial⟩ (fun e18 => ?_)
   have hk19 : (!decide (((bestR md ql D).2.2) = 10)) = false := by first | rfl | (rcases (best_enough hok2).2 with h | h; exact absurd h hq2; rw [h]; rfl)
   refine r_cond_f ((congrArg Value.bool hk19 : Value.bool _ = _)) ?_
   refine r_skip (r_seq (r_region' ?_))
   refine l_q (q_move (v := .int _ _) rfl rfl) ?_
   refine l_q (q_eql rfl rfl rfl) ?_
   refine l_q (q_move (v := .bool _) rfl rfl) ?_
   refine l_part 67 rfl (fun hc20 => ?_) (fun hc20 => ?_)
   ·
    replace hc20 := dt hc20
    have h10 := hc20
    refine l_q (q_skip rfl) ?_
    refine l_q (q_skip rfl) ?_
    refine l_q (q_skip rfl) ?_
    refine l_q (q_skip rfl) ?_
    refine l_q (q_skip rfl) ?_
    refine l_q (q_skip rfl) ?_
    refine l_q (q_skip rfl) ?_
    refine l_q (q_skip rfl) ?_
    refine l_q (q_skip rfl) ?_
    refine l_q (q_skip rfl) ?_
    refine l_q (q_skip rfl) ?_
    refine l_q (q_skip rfl) ?_
    refine l_q (q_skip rfl) ?_
    refine l_q (q_skip rfl) ?_
    refine l_q (q_pick_t (v := .bool _) rfl rfl rfl) ?_
    refine l_q (q_assign (v := .bool _) rfl rfl) ?_
    refine l_nil ?_
    refine r_forget [(4, .bool _)] ⟨rfl, trivial⟩ (fun e21 => ?_)
    refine r_ret_ (vs := [.bool _]) rfl Try.func9 rfl (.nil _) ⟨rfl, trivial⟩ ?_
    exact ⟨vbool_eq (by first | rfl | exact decide_eq_true (by omega)), Ext.of_below hB⟩
   ·
    replace hc20 := df hc20
    have h10 := hc20
    obtain ⟨he0, hnm, hll⟩ := hard_facts hok hok2 hln hH h10
    refine l_q (q_move (v := .int _ _) rfl rfl) ?_
    refine l_q (q_eql rfl rfl rfl) ?_
    refine l_q (q_move (v := .bool _) rfl rfl) ?_
    have hk22 : (decide (((bestR nd pl L).2.2) = 0)) = true := decide_eq_true he0
    refine l_part 70 rfl (fun _ => ?_) (fun hx => absurd (hk22.symm.trans hx) (by decide))
    refine l_q (q_move (v := .int _ _) rfl rfl) ?_
    refine l_q (q_move (v := .int _ _) rfl rfl) ?_
    refine l_q (q_geq rfl rfl rfl) ?_
    refine l_q (q_pick_t (v := .bool _) rfl rfl rfl) ?_
    refine l_q (q_move (v := .bool _) rfl rfl) ?_
    have hk23 : (decide (((bestR nd pl L).2.1) ≤ ((bestR md ql D).2.1))) = true := decide_eq_true hnm
    refine l_part 75 rfl (fun _ => ?_) (fun hx => absurd (hk23.symm.trans hx) (by decide))
    refine l_q (q_move (v := .slice _ _ _) rfl rfl) ?_
    refine l_q (q_len rfl Try.underlying22 rfl rfl) ?_
    refine l_q (q_move (v := .slice _ _ _) rfl rfl) ?_
    refine l_q (q_len rfl Try.underlying22 rfl rfl) ?_
    refine l_q (q_geq rfl rfl rfl) ?_
    refine l_q (q_pick_t (v := .bool _) rfl rfl rfl) ?_
    refine l_q (q_pick_f (v := .bool _) rfl rfl rfl) ?_
    refine l_q (q_assign (v := .bool _) rfl rfl) ?_
    refine l_nil ?_
    refine r_forget [(4, .bool _)] ⟨rfl, trivial⟩ (fun e24 => ?_)
    refine r_ret_ (vs := [.bool _]) rfl Try.func9 rfl (.nil _) ⟨rfl, trivial⟩ ?_
    exact ⟨vbool_eq (by first | rfl | exact decide_eq_true (by omega)), Ext.of_below hB⟩
  ·
   replace hc17 := dt (nf hc17)
   refine l_q (q_skip rfl) ?_
   refine l_q (q_skip rfl) ?_
   refine l_q (q_pick_f (v := .bool _) rfl rfl rfl) ?_
   refine l_q (q_pick_f (v := .bool _) rfl rfl rfl) ?_
   refine l_nil ?_
   refine r_forget [(6, .int _ _), (7, .int _ _), (9, .int _ _), (10, .int _ _), (11, .slice _ _ _), (13, .slice _ _ _), (64, .bool _)] ⟨rfl, rfl, rfl, rfl, rfl, rfl, rfl, trivial⟩ (fun e25 => ?_)
   refine r_cond_f rfl ?_
   refine r_skip (r_seq (r_region' ?_))
   refine l_q (q_move (v := .int _ _) rfl rfl) ?_
   refine l_q (q_eql rfl rfl rfl) ?_
   refine l_q (q_move (v := .bool _) rfl rfl) ?_
   refine l_part 67 rfl (fun hc26 => ?_) (fun hc26 => ?_)
   ·
    replace hc26 := dt hc26
    have h10 := hc26
    refine l_q (q_skip rfl) ?_
    refine l_q (q_skip rfl) ?_
    refine l_q (q_skip rfl) ?_
    refine l_q (q_skip rfl) ?_
    refine l_q (q_skip rfl) ?_
    refine l_q (q_skip rfl) ?_
    refine l_q (q_skip rfl) ?_
    refine l_q (q_skip rfl) ?_
    refine l_q (q_skip rfl) ?_
    refine l_q (q_skip rfl) ?_
    refine l_q (q_skip rfl) ?_
    refine l_q (q_skip rfl) ?_
    refine l_q (q_skip rfl) ?_
    refine l_q (q_skip rfl) ?_
    refine l_q (q_pick_t (v := .bool _) rfl rfl rfl) ?_
    refine l_q (q_assign (v := .bool _) rfl rfl) ?_
    refine l_nil ?_
    refine r_forget [(4, .bool _)] ⟨rfl, trivial⟩ (fun e27 => ?_)
    refine r_ret_ (vs := [.bool _]) rfl Try.func9 rfl (.nil _) ⟨rfl, trivial⟩ ?_
    exact ⟨vbool_eq (by first | rfl | exact decide_eq_true (by omega)), Ext.of_below hB⟩
   ·
    replace hc26 := df hc26
    have h10 := hc26
    obtain ⟨he0, hnm, hll⟩ := hard_facts hok hok2 hln hH h10
    refine l_q (q_move (v := .int _ _) rfl rfl) ?_
    refine l_q (q_eql rfl rfl rfl) ?_
    refine l_q (q_move (v := .bool _) rfl rfl) ?_
    have hk28 : (decide (((bestR nd pl L).2.2) = 0)) = true := decide_eq_true he0
    refine l_part 70 rfl (fun _ => ?_) (fun hx => absurd (hk28.symm.trans hx) (by decide))
    refine l_q (q_move (v := .int _ _) rfl rfl) ?_
    refine l_q (q_move (v := .int _ _) rfl rfl) ?_
    refine l_q (q_geq rfl rfl rfl) ?_
    refine l_q (q_pick_t (v := .bool _) rfl rfl rfl) ?_
    refine l_q (q_move (v := .bool _) rfl rfl) ?_
    have hk29 : (decide (((bestR nd pl L).2.1) ≤ ((bestR md ql D).2.1))) = true := decide_eq_true hnm
    refine l_part 75 rfl (fun _ => ?_) (fun hx => absurd (hk29.symm.trans hx) (by decide))
    refine l_q (q_move (v := .slice _ _ _) rfl rfl) ?_
    refine l_q (q_len rfl Try.underlying22 rfl rfl) ?_
    refine l_q (q_move (v := .slice _ _ _) rfl rfl) ?_
    refine l_q (q_len rfl Try.underlying22 rfl rfl) ?_
    refine l_q (q_geq rfl rfl rfl) ?_
    refine l_q (q_pick_t (v := .bool _) rfl rfl rfl) ?_
    refine l_q (q_pick_f (v := .bool _) rfl rfl rfl) ?_
    refine l_q (q_assign (v := .bool _) rfl rfl) ?_
    refine l_nil ?_
    refine r_forget [(4, .bool _)] ⟨rfl, trivial⟩ (fun e30 => ?_)
    refine r_ret_ (vs := [.bool _]) rfl Try.func9 rfl (.nil _) ⟨rfl, trivial⟩ ?_
    exact ⟨vbool_eq (by first | rfl | exact decide_eq_true (by omega)), Ext.of_below hB⟩
 ·
  replace hc15 := dt (nf hc15)
  refine l_q (q_skip rfl) ?_
  refine l_q (q_skip rfl) ?_
  refine l_q (q_pick_f (v := .bool _) rfl rfl rfl) ?_
  refine l_q (q_pick_f (v := .bool _) rfl rfl rfl) ?_
  refine l_q (q_move (v := .bool _) rfl rfl) ?_
  refine l_q (q_move (v := .int _ _) rfl rfl) ?_
  refine l_q (q_neq rfl rfl rfl) ?_
  refine l_q (q_move (v := .bool _) rfl rfl) ?_
  refine l_part 60 rfl (fun hc31 => ?_) (fun hc31 => ?_)
  ·
   replace hc31 := df (nt hc31)
   have hq2 := hc31
   refine l_q (q_move (v := .int _ _) rfl rfl) ?_
   refine l_q (q_neq rfl rfl rfl) ?_
   refine l_q (q_pick_t (v := .bool _) rfl rfl rfl) ?_
   refine l_q (q_pick_f (v := .bool _) rfl rfl rfl) ?_
   refine l_nil ?_
   refine r_forget [(6, .int _ _), (7, .int _ _), (9, .int _ _), (10, .int _ _), (11, .slice _ _ _), (13, .slice _ _ _), (64, .bool _)] ⟨rfl, rfl, rfl, rfl, rfl, rfl, rfl, trivial⟩ (fun e32 => ?_)
   have hk33 : (!decide (((bestR md ql D).2.2) = 10)) = false := by first | rfl | (rcases (best_enough hok2).2 with h | h; exact absurd h hq2; rw [h]; rfl)
   refine r_cond_f ((congrArg Value.bool hk33 : Value.bool _ = _)) ?_
   refine r_skip (r_seq (r_region' ?_))
   refine l_q (q_move (v := .int _ _) rfl rfl) ?_
   refine l_q (q_eql rfl rfl rfl) ?_
   refine l_q (q_move (v := .bool _) rfl rfl) ?_
   refine l_part 67 rfl (fun hc34 => ?_) (fun hc34 => ?_)
   ·
    replace hc34 := dt hc34
    have h10 := hc34
    refine l_q (q_skip rfl) ?_
    refine l_q (q_skip rfl) ?_
    refine l_q (q_skip rfl) ?_
    refine l_q (q_skip rfl) ?_
    refine l_q (q_skip rfl) ?_
    refine l_q (q_skip rfl) ?_
    refine l_q (q_skip rfl) ?_
    refine l_q (q_skip rfl) ?_
    refine l_q (q_skip rfl) ?_
    refine l_q (q_skip rfl) ?_
    refine l_q (q_skip rfl) ?_
    refine l_q (q_skip rfl) ?_
    refine l_q (q_skip rfl) ?_
    refine l_q (q_skip rfl) ?_
    refine l_q (q_pick_t (v := .bool _) rfl rfl rfl) ?_
    refine l_q (q_assign (v := .bool _) rfl rfl) ?_
    refine l_nil ?_
    refine r_forget [(4, .bool _)] ⟨rfl, trivial⟩ (fun e35 => ?_)
    refine r_ret_ (vs := [.bool _]) rfl Try.func9 rfl (.nil _) ⟨rfl, trivial⟩ ?_
    exact ⟨vbool_eq (by first | rfl | exact decide_eq_true (by omega)), Ext.of_below hB⟩
   ·
    replace hc34 := df hc34
    have h10 := hc34
    obtain ⟨he0, hnm, hll⟩ := hard_facts hok hok2 hln hH h10
    refine l_q (q_move (v := .int _ _) rfl rfl) ?_
    refine l_q (q_eql rfl rfl rfl) ?_
    refine l_q (q_move (v := .bool _) rfl rfl) ?_
    have hk36 : (decide (((bestR nd pl L).2.2) = 0)) = true := decide_eq_true he0
    refine l_part 70 rfl (fun _ => ?_) (fun hx => absurd (hk36.symm.trans hx) (by decide))
    refine l_q (q_move (v := .int _ _) rfl rfl) ?_
    refine l_q (q_move (v := .int _ _) rfl rfl) ?_
    refine l_q (q_geq rfl rfl rfl) ?_
    refine l_q (q_pick_t (v := .bool _) rfl rfl rfl) ?_
    refine l_q (q_move (v := .bool _) rfl rfl) ?_
    have hk37 : (decide (((bestR nd pl L).2.1) ≤ ((bestR md ql D).2.1))) = true := decide_eq_true hnm
    refine l_part 75 rfl (fun _ => ?_) (fun hx => absurd (hk37.symm.trans hx) (by decide))
    refine l_q (q_move (v := .slice _ _ _) rfl rfl) ?_
    refine l_q (q_len rfl Try.underlying22 rfl rfl) ?_
    refine l_q (q_move (v := .slice _ _ _) rfl rfl) ?_
    refine l_q (q_len rfl Try.underlying22 rfl rfl) ?_
    refine l_q (q_geq rfl rfl rfl) ?_
    refine l_q (q_pick_t (v := .bool _) rfl rfl rfl) ?_
    refine l_q (q_pick_f (v := .bool _) rfl rfl rfl) ?_
    refine l_q (q_assign (v := .bool _) rfl rfl) ?_
    refine l_nil ?_
    refine r_forget [(4, .bool _)] ⟨rfl, trivial⟩ (fun e38 => ?_)
    refine r_ret_ (vs := [.bool _]) rfl Try.func9 rfl (.nil _) ⟨rfl, trivial⟩ ?_
    exact ⟨vbool_eq (by first | rfl | exact decide_eq_true (by omega)), Ext.of_below hB⟩
  ·
   replace hc31 := dt (nf hc31)
   refine l_q (q_skip rfl) ?_
   refine l_q (q_skip rfl) ?_
   refine l_q (q_pick_f (v := .bool _) rfl rfl rfl) ?_
   refine l_q (q_pick_f (v := .bool _) rfl rfl rfl) ?_
   refine l_nil ?_
   refine r_forget [(6, .int _ _), (7, .int _ _), (9, .int _ _), (10, .int _ _), (11, .slice _ _ _), (13, .slice _ _ _), (64, .bool _)] ⟨rfl, rfl, rfl, rfl, rfl, rfl, rfl, trivial⟩ (fun e39 => ?_)
   refine r_cond_f rfl ?_
   refine r_skip (r_seq (r_region' ?_))
   refine l_q (q_move (v := .int _ _) rfl rfl) ?_
   refine l_q (q_eql rfl rfl rfl) ?_
   refine l_q (q_move (v := .bool _) rfl rfl) ?_
   refine l_part 67 rfl (fun hc40 => ?_) (fun hc40 => ?_)
   ·
    replace hc40 := dt hc40
    have h10 := hc40
    refine l_q (q_skip rfl) ?_
    refine l_q (q_skip rfl) ?_
    refine l_q (q_skip rfl) ?_
    refine l_q (q_skip rfl) ?_
    refine l_q (q_skip rfl) ?_
    refine l_q (q_skip rfl) ?_
    refine l_q (q_skip rfl) ?_
    refine l_q (q_skip rfl) ?_
    refine l_q (q_skip rfl) ?_
    refine l_q (q_skip rfl) ?_
    refine l_q (q_skip rfl) ?_
    refine l_q (q_skip rfl) ?_
    refine l_q (q_skip rfl) ?_
    refine l_q (q_skip rfl) ?_
    refine l_q (q_pick_t (v := .bool _) rfl rfl rfl) ?_
    refine l_q (q_assign (v := .bool _) rfl rfl) ?_
    refine l_nil ?_
    refine r_forget [(4, .bool _)] ⟨rfl, trivial⟩ (fun e41 => ?_)
    refine r_ret_ (vs := [.bool _]) rfl Try.func9 rfl (.nil _) ⟨rfl, trivial⟩ ?_
    exact ⟨vbool_eq (by first | rfl | exact decide_eq_true (by omega)), Ext.of_below hB⟩
   ·
    replace hc40 := df hc40
    have h10 := hc40
    obtain ⟨he0, hnm, hll⟩ := hard_facts hok hok2 hln hH h10
    refine l_q (q_move (v := .int _ _) rfl rfl) ?_
    refine l_q (q_eql rfl rfl rfl) ?_
    refine l_q (q_move (v := .bool _) rfl rfl) ?_
    have hk42 : (decide (((bestR nd pl L).2.2) = 0)) = true := decide_eq_true he0
    refine l_part 70 rfl (fun _ => ?_) (fun hx => absurd (hk42.symm.trans hx) (by decide))
    refine l_q (q_move (v := .int _ _) rfl rfl) ?_
    refine l_q (q_move (v := .int _ _) rfl rfl) ?_
    refine l_q (q_geq rfl rfl rfl) ?_
    refine l_q (q_pick_t (v := .bool _) rfl rfl rfl) ?_
    refine l_q (q_move (v := .bool _) rfl rfl) ?_
    have hk43 : (decide (((bestR nd pl L).2.1) ≤ ((bestR md ql D).2.1))) = true := decide_eq_true hnm
    refine l_part 75 rfl (fun _ => ?_) (fun hx => absurd (hk43.symm.trans hx) (by decide))
    refine l_q (q_move (v := .slice _ _ _) rfl rfl) ?_
    refine l_q (q_len rfl Try.underlying22 rfl rfl) ?_
    refine l_q (q_move (v := .slice _ _ _) rfl rfl) ?_
    refine l_q (q_len rfl Try.underlying22 rfl rfl) ?_
    refine l_q (q_geq rfl rfl rfl) ?_
    refine l_q (q_pick_t (v := .bool _) rfl rfl rfl) ?_
    refine l_q (q_pick_f (v := .bool _) rfl rfl rfl) ?_
    refine l_q (q_assign (v := .bool _) rfl rfl) ?_
    refine l_nil ?_
    refine r_forget [(4, .bool _)] ⟨rfl, trivial⟩ (fun e44 => ?_)
    refine r_ret_ (vs := [.bool _]) rfl Try.func9 rfl (.nil _) ⟨rfl, trivial⟩ ?_
    exact ⟨vbool_eq (by first | rfl | exact decide_eq_true (by omega)), Ext.of_below hB⟩
end Go.Proofs.Ytgdanglidienmaa
