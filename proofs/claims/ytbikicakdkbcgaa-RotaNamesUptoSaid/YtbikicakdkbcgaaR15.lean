/- Contracts. -/
import Derived.Test.YtbikicakdkbcgaaR5
set_option linter.unusedVariables false
set_option linter.unusedSimpArgs false
namespace Go.Proofs.Ytbikicakdkbcgaa
open Go Go.RowKit Go.Gv Go.Fl

section
variable {xs ys : List Int} {k : Nat}
theorem cmpV_eq (h1 : k < xs.length) (h2 : k < ys.length) (he : xs.getD k 0 = ys.getD k 0) : cmpV (xs.drop k) (ys.drop k) = cmpV (xs.drop (k + 1)) (ys.drop (k + 1)) := by
  rw [drop_getD (d := 0) h1, drop_getD (d := 0) h2, cmpV, if_pos he]
theorem cmpV_ne (h1 : k < xs.length) (h2 : k < ys.length) (he : ¬ xs.getD k 0 = ys.getD k 0) : decide (cmpV (xs.drop k) (ys.drop k) < 0) = decide (xs.getD k 0 < ys.getD k 0) := by
  rw [drop_getD (d := 0) h1, drop_getD (d := 0) h2, decide_eq_decide, cmpV_cons]
  omega
theorem cmpV_out (h1 : k ≤ xs.length) (h2 : k ≤ ys.length) (h : xs.length ≤ k ∨ ys.length ≤ k) : decide (cmpV (xs.drop k) (ys.drop k) < 0) = decide (xs.length < ys.length) := by
  rw [decide_eq_decide]
  by_cases hx : k < xs.length
  · rw [drop_getD (d := 0) hx, List.drop_eq_nil_of_le (by omega : ys.length ≤ k)]
    simp only [cmpV]
    omega
  · rw [List.drop_eq_nil_of_le (by omega : xs.length ≤ k)]
    by_cases hy : k < ys.length
    · rw [drop_getD (d := 0) hy]
      simp only [cmpV]
      omega
    · rw [List.drop_eq_nil_of_le (by omega : ys.length ≤ k)]
      simp only [cmpV]
      omega
theorem same_dec : decide (xs = ys) = (decide (xs.length = ys.length) && (!decide (cmpV xs ys < 0) && !decide (cmpV ys xs < 0))) := by
  rw [Bool.eq_iff_iff]
  simp only [Bool.and_eq_true, decide_eq_true_eq, Bool.not_eq_true', decide_eq_false_iff_not]
  constructor
  · rintro rfl
    rw [cmpV_self]
    exact ⟨rfl, by decide, by decide⟩
  · rintro ⟨h, h1, h2⟩
    rcases cmpV_total h with h3 | h3 | h3
    · exact absurd h3 h1
    · exact h3
    · exact absurd h3 h2
end


theorem bef10_ret (xa : Option Addr) (xc : Nat) (xs : List Int) (ya : Option Addr) (yc : Nat) (ys : List Int) (w : World) (hx : Row w xa xs.length xc 1 (xs.map vint)) (hxn : xs.length ≤ 2097152) (hy : Row w ya ys.length yc 1 (ys.map vint)) (hyn : ys.length ≤ 2097152) : Ret Try.prog 51 [.slice xa xs.length xc, .slice ya ys.length yc] w (fun v w' => v = .bool (decide (cmpV xs ys < 0)) ∧ Ext w w') := by
 have hB := Below.refl w.heap.size w
 have hsz : w.heap.size ≤ w.heap.size := Nat.le_refl _
 refine ret_of_runs (args := [_, _]) Try.func51 rfl (Nat.le_of_ble_eq_true rfl) (by kernel_rfl) (r_seq (r_region' (l_q (qab rfl rfl) (l_nil (r_seq (r_seq (r_region' (l_q (qai rfl rfl) (l_nil (r_block (r_rounds (α := Nat) (fun k e wl => Knows e [(0, .slice xa xs.length xc), (1, .slice ya ys.length yc), (5, vint (k : Int))] ∧ (k ≤ xs.length) ∧ (k ≤ ys.length) ∧ (cmpV xs ys = cmpV (xs.drop k) (ys.drop k)) ∧ (w.heap.size ≤ wl.heap.size) ∧ (Below w.heap.size w wl)) (fun k => xs.length - k) 0 ?_ ?_)))))))))))
 ·
  exact ⟨⟨rfl, rfl, rfl, trivial⟩, (Nat.zero_le _), (Nat.zero_le _), rfl, hsz, hB⟩
 ·
  rintro k el1 wl1 ⟨hkn, hkk, hky, hq, hsz, hB⟩ ih1
  obtain ⟨e1, rfl⟩ := knows_env hkn
  refine r_seq (r_seq (r_region' (l_q (qmi rfl rfl) (l_q (qms rfl rfl) (l_q (q_len rfl Try.underlying26 rfl rfl) (l_q (q_lss rfl rfl rfl) (l_q (qmb rfl rfl) (l_part 10 rfl (fun hc2 => ?_) (fun hc2 => ?_)))))))))
  ·
   replace hc2 := dt hc2
   have hkx : k < xs.length := by omega
   refine l_q (qmi rfl rfl) (l_q (qms rfl rfl) (l_q (q_len rfl Try.underlying26 rfl rfl) (l_q (q_lss rfl rfl rfl) (l_q (q_pick_t (v := .bool _) rfl rfl rfl) (l_nil (r_cond rfl (fun hc3 => ?_) (fun hc3 => ?_)))))))
   ·
    replace hc3 := dt hc3
    have hky2 : k < ys.length := by omega
    refine r_skip (r_seq (r_block (r_seq (r_draw ext_refl' ext_trans' [0, 1, 2, 3, 4, 5, 6, 7, 8] [] 9 (by kernel_rfl) (by kernel_rfl) ?_))))
    intro w4 _ hE4
    replace hB := below_ext hB hE4 hsz
    replace hsz := Nat.le_trans hsz hE4.size
    refine m_q rfl rfl (fun w' hC' => qms rfl rfl) (m_q rfl rfl (fun w' hC' => qmi rfl rfl) ?_)
    obtain ⟨b5, o5, ha5, hh5⟩ := (hx.below hB).at1 k ((xs).getD k 0) (getD_some (by omega))
    refine m_q rfl rfl (fun w' hC' => q_indexAddr1 Try.underlying26 Try.sizeOf3 rfl ha5 rfl (by omega) rfl) (m_q rfl rfl (fun w' hC' => q_load Try.isAgg3 rfl ((hh5.ext hC')) rfl) (m_q rfl rfl (fun w' hC' => qms rfl rfl) (m_q rfl rfl (fun w' hC' => qmi rfl rfl) ?_)))
    obtain ⟨b6, o6, ha6, hh6⟩ := (hy.below hB).at1 k ((ys).getD k 0) (getD_some (by omega))
    refine m_q rfl rfl (fun w' hC' => q_indexAddr1 Try.underlying26 Try.sizeOf3 rfl ha6 rfl (by omega) rfl) (m_q rfl rfl (fun w' hC' => q_load Try.isAgg3 rfl ((hh6.ext hC')) rfl) (m_q rfl rfl (fun w' hC' => q_neq rfl rfl rfl) (m_nil (r_forget [(0, .slice _ _ _), (1, .slice _ _ _), (5, .int _ _), (26, .bool _)] ⟨rfl, rfl, rfl, rfl, trivial⟩ (fun e7 => (r_cond rfl (fun hc8 => ?_) (fun hc8 => ?_)))))))
    ·
     replace hc8 := df (nt hc8)
     have g26 := hc8
     refine r_seq (r_draw ext_refl' ext_trans' [0, 1, 2, 3, 4, 5, 6, 7, 8, 9] [] 9 (by kernel_rfl) (by kernel_rfl) ?_)
     intro w9 _ hE9
     replace hB := below_ext hB hE9 hsz
     replace hsz := Nat.le_trans hsz hE9.size
     refine m_q rfl rfl (fun w' hC' => qms rfl rfl) (m_q rfl rfl (fun w' hC' => qmi rfl rfl) ?_)
     obtain ⟨b10, o10, ha10, hh10⟩ := (hx.below hB).at1 k ((xs).getD k 0) (getD_some (by omega))
     refine m_q rfl rfl (fun w' hC' => q_indexAddr1 Try.underlying26 Try.sizeOf3 rfl ha10 rfl (by omega) rfl) (m_q rfl rfl (fun w' hC' => q_load Try.isAgg3 rfl ((hh10.ext hC')) rfl) (m_q rfl rfl (fun w' hC' => qms rfl rfl) (m_q rfl rfl (fun w' hC' => qmi rfl rfl) ?_)))
     obtain ⟨b11, o11, ha11, hh11⟩ := (hy.below hB).at1 k ((ys).getD k 0) (getD_some (by omega))
     refine m_q rfl rfl (fun w' hC' => q_indexAddr1 Try.underlying26 Try.sizeOf3 rfl ha11 rfl (by omega) rfl) (m_q rfl rfl (fun w' hC' => q_load Try.isAgg3 rfl ((hh11.ext hC')) rfl) (m_q rfl rfl (fun w' hC' => q_lss rfl rfl rfl) (m_q rfl rfl (fun w' hC' => qab rfl rfl) (m_nil (r_forget [(4, .bool _)] ⟨rfl, trivial⟩ (fun e12 => (r_ret_ (vs := [.bool _]) rfl Try.func51 rfl (.nil _) ⟨rfl, trivial⟩ ?_)))))))
     exact ⟨vbool_eq (by rw [hq, cmpV_ne hkx hky2 g26]), Ext.of_below hB⟩
    ·
     replace hc8 := dt (nf hc8)
     have g26 := hc8
     refine r_skip (r_inBlock (r_region' (l_q (qmi rfl rfl) (l_q (q_add rfl rfl (by omega) rfl) (l_q (qai rfl rfl) (l_nil ?_))))))
     exact ih1 (k + 1) _ _ ⟨⟨rfl, rfl, by first | rfl | exact vint_eq (by omega), trivial⟩, (by omega), (by omega), (hq.trans (cmpV_eq hkx hky2 g26)), hsz, hB⟩ (by first | omega | (dsimp only; omega))
   ·
    replace hc3 := dlt hc3
    have hkyn := hc3
    refine r_exit rfl (r_seq (r_region' (l_q (qms rfl rfl) (l_q (q_len rfl Try.underlying26 rfl rfl) (l_q (qms rfl rfl) (l_q (q_len rfl Try.underlying26 rfl rfl) (l_q (q_lss rfl rfl rfl) (l_q (qab rfl rfl) (l_nil (r_forget [(4, .bool _)] ⟨rfl, trivial⟩ (fun e13 => (r_ret_ (vs := [.bool _]) rfl Try.func51 rfl (.nil _) ⟨rfl, trivial⟩ ?_))))))))))))
    exact ⟨vbool_eq (by rw [hq, cmpV_out hkk hky (by omega), decide_eq_decide]; omega), Ext.of_below hB⟩
  ·
   replace hc2 := dlt hc2
   have hkx2 := hc2
   refine l_q (q_skip rfl) (l_q (q_skip rfl) (l_q (q_skip rfl) (l_q (q_skip rfl) (l_q (q_pick_f (v := .bool _) rfl rfl rfl) (l_nil (r_cond_f rfl (r_exit rfl (r_seq (r_region' (l_q (qms rfl rfl) (l_q (q_len rfl Try.underlying26 rfl rfl) (l_q (qms rfl rfl) (l_q (q_len rfl Try.underlying26 rfl rfl) (l_q (q_lss rfl rfl rfl) (l_q (qab rfl rfl) (l_nil (r_forget [(4, .bool _)] ⟨rfl, trivial⟩ (fun e14 => (r_ret_ (vs := [.bool _]) rfl Try.func51 rfl (.nil _) ⟨rfl, trivial⟩ ?_)))))))))))))))))))
   exact ⟨vbool_eq (by rw [hq, cmpV_out hkk hky (by omega), decide_eq_decide]; omega), Ext.of_below hB⟩
theorem same10_ret (xa : Option Addr) (xc : Nat) (xs : List Int) (ya : Option Addr) (yc : Nat) (ys : List Int) (w : World) (hx : Row w xa xs.length xc 1 (xs.map vint)) (hxn : xs.length ≤ 2097152) (hy : Row w ya ys.length yc 1 (ys.map vint)) (hyn : ys.length ≤ 2097152) : Ret Try.prog 29 [.slice xa xs.length xc, .slice ya ys.length yc] w (fun v w' => v = .bool (decide (xs = ys)) ∧ Ext w w') := by
 have hB := Below.refl w.heap.size w
 have hsz : w.heap.size ≤ w.heap.size := Nat.le_refl _
 refine ret_of_runs (args := [_, _]) Try.func29 rfl (Nat.le_of_ble_eq_true rfl) (by kernel_rfl) (r_seq (r_region' (l_q (qab rfl rfl) (l_nil (r_seq (r_region' (l_q (qms rfl rfl) (l_q (q_len rfl Try.underlying26 rfl rfl) (l_q (qms rfl rfl) (l_q (q_len rfl Try.underlying26 rfl rfl) (l_q (q_eql rfl rfl rfl) (l_q (qmb rfl rfl) (l_part 10 rfl (fun hc1 => ?_) (fun hc1 => ?_))))))))))))))
 ·
  replace hc1 := dt hc1
  have g10 := hc1
  refine l_q (qms rfl rfl) (l_q (qms rfl rfl) (l_o (o_call Try.call51 rfl (bef10_ret _ _ xs _ _ ys _ (hx.below hB) (by omega) (hy.below hB) (by omega)) rfl ?_)))
  rintro _ w2 ⟨rfl, hE2⟩
  replace hB := below_ext hB hE2 hsz
  replace hsz := Nat.le_trans hsz hE2.size
  refine l_q (q_not rfl rfl) (l_q (q_pick_t (v := .bool _) rfl rfl rfl) (l_q (qmb rfl rfl) (l_part 16 rfl (fun hc3 => ?_) (fun hc3 => ?_))))
  ·
   replace hc3 := dlt (nt hc3)
   have g16 := hc3
   refine l_q (qms rfl rfl) (l_q (qms rfl rfl) (l_o (o_call Try.call51 rfl (bef10_ret _ _ ys _ _ xs _ (hy.below hB) (by omega) (hx.below hB) (by omega)) rfl ?_)))
   rintro _ w4 ⟨rfl, hE4⟩
   replace hB := below_ext hB hE4 hsz
   replace hsz := Nat.le_trans hsz hE4.size
   refine l_q (q_not rfl rfl) (l_q (q_pick_t (v := .bool _) rfl rfl rfl) (l_q (qab rfl rfl) (l_nil (r_forget [(4, .bool _)] ⟨rfl, trivial⟩ (fun e5 => (r_ret_ (vs := [.bool _]) rfl Try.func29 rfl (.nil _) ⟨rfl, trivial⟩ ?_))))))
   exact ⟨vbool_eq (by rw [same_dec]; first | (rw [decide_eq_true (by omega : xs.length = ys.length), decide_eq_false (by omega : ¬ cmpV xs ys < 0)]; rfl) | (rw [decide_eq_false (by omega : ¬ xs.length = ys.length)]; rfl) | (rw [decide_eq_true (by omega : cmpV xs ys < 0)]; simp)), Ext.of_below hB⟩
  ·
   replace hc3 := dt (nf hc3)
   have g16 := hc3
   refine l_q (q_skip rfl) (l_q (q_skip rfl) (l_q (q_skip rfl) (l_q (q_skip rfl) (l_q (q_pick_f (v := .bool _) rfl rfl rfl) (l_q (qab rfl rfl) (l_nil (r_forget [(4, .bool _)] ⟨rfl, trivial⟩ (fun e6 => (r_ret_ (vs := [.bool _]) rfl Try.func29 rfl (.nil _) ⟨rfl, trivial⟩ ?_)))))))))
   exact ⟨vbool_eq (by rw [same_dec]; first | (rw [decide_eq_true (by omega : xs.length = ys.length), decide_eq_false (by omega : ¬ cmpV xs ys < 0)]; rfl) | (rw [decide_eq_false (by omega : ¬ xs.length = ys.length)]; rfl) | (rw [decide_eq_true (by omega : cmpV xs ys < 0)]; simp)), Ext.of_below hB⟩
 ·
  replace hc1 := df hc1
  have g10 := hc1
  refine l_q (q_skip rfl) (l_q (q_skip rfl) (l_q (q_skip rfl) (l_q (q_skip rfl) (l_q (q_pick_f (v := .bool _) rfl rfl rfl) (l_q (qmb rfl rfl) (l_q (q_skip rfl) (l_q (q_skip rfl) (l_q (q_skip rfl) (l_q (q_skip rfl) (l_q (q_pick_f (v := .bool _) rfl rfl rfl) (l_q (qab rfl rfl) (l_nil (r_forget [(4, .bool _)] ⟨rfl, trivial⟩ (fun e7 => (r_ret_ (vs := [.bool _]) rfl Try.func29 rfl (.nil _) ⟨rfl, trivial⟩ ?_)))))))))))))))
  exact ⟨vbool_eq (by rw [same_dec]; first | (rw [decide_eq_true (by omega : xs.length = ys.length), decide_eq_false (by omega : ¬ cmpV xs ys < 0)]; rfl) | (rw [decide_eq_false (by omega : ¬ xs.length = ys.length)]; rfl) | (rw [decide_eq_true (by omega : cmpV xs ys < 0)]; simp)), Ext.of_below hB⟩
end Go.Proofs.Ytbikicakdkbcgaa
