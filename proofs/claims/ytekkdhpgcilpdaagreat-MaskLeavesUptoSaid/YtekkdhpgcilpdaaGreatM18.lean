/- Contracts. -/
import Derived.Test.YtekkdhpgcilpdaaGreatM17
set_option linter.unusedVariables false
set_option linter.unusedSimpArgs false
namespace Go.Proofs.YtekkdhpgcilpdaaGreat
open Go Go.RowKit Go.Gv Go.Fl
theorem shr_q (k j : Nat) : ∃ q : Nat, (k : Int) / 2 ^ ((j : Int).toNat) = q ∧ q = k / 2 ^ j := ⟨k / 2 ^ j, by simp, rfl⟩

theorem bits_go {n k : Nat} (hn : n < 1048576) (h : 0 < n / 2 ^ k) : k < 20 := by
  rcases Nat.lt_or_ge k 20 with h1 | h1
  · exact h1
  · have : n < 2 ^ k := Nat.lt_of_lt_of_le hn (Nat.pow_le_pow_right (n := 2) (by decide) h1)
    rw [Nat.div_eq_of_lt this] at h; omega
theorem bits_stop {n k : Nat} (hk : k ≤ 20) (h : n / 2 ^ k = 0) : bitsL n = bitsK n k := by
  have h1 : n < 2 ^ k := by
    rcases Nat.lt_or_ge n (2 ^ k) with h2 | h2
    · exact h2
    · have := Nat.div_pos h2 (Nat.two_pow_pos k); omega
  exact bits_eq h1 hk
theorem bitsK_len {n k : Nat} : (bitsK n k).length ≤ k := by
  unfold bitsK
  rw [List.length_map]
  have := List.length_filter_le (bitB n) (List.range k)
  rwa [List.length_range] at this
theorem bits_len (n : Nat) : (bitsL n).length ≤ 20 := by
  unfold bitsL bitsK
  rw [List.length_map]
  have := List.length_filter_le (bitB n) (List.range 20)
  rwa [List.length_range] at this
theorem two_pow8 {n : Nat} (h : n ≤ 8) : ∃ N : Nat, (2 : Int) ^ ((n : Int).toNat) = N ∧ N ≤ 256 ∧ N = 2 ^ n := by
  refine ⟨2 ^ n, ?_, ?_, rfl⟩
  · simp
  · exact Nat.le_trans (Nat.pow_le_pow_right (by decide) h) (by decide)

section
variable {xs ys : List Int} {k : Nat}
theorem cmpV_eq (h1 : k < xs.length) (h2 : k < ys.length) (he : xs.getD k 0 = ys.getD k 0) : cmpV (xs.drop k) (ys.drop k) = cmpV (xs.drop (k + 1)) (ys.drop (k + 1)) := by
  rw [drop_getD (d := 0) h1, drop_getD (d := 0) h2, cmpV, if_pos he]
theorem cmpV_ne (h1 : k < xs.length) (h2 : k < ys.length) (he : ¬ xs.getD k 0 = ys.getD k 0) : decide (cmpV (xs.drop k) (ys.drop k) < 0) = decide (xs.getD k 0 < ys.getD k 0) := by
  rw [drop_getD (d := 0) h1, drop_getD (d := 0) h2, decide_eq_decide, cmpV_cons]
  omega
theorem cmpV_out (h1 : k ≤ xs.length) (h2 : k ≤ ys.length) (h : xs.length ≤ k ∨ ys.length ≤ k) : decide (cmpV (xs.drop k) (ys.drop k) < 0) = decide (xs.length < ys.length) := by
  rw [decide_eq_decide]
  by_cases hx : k < xs.length
  · rw [drop_getD (d := 0) hx, List.drop_eq_nil_of_le (by omega : ys.length ≤ k)]
    simp only [cmpV]
    omega
  · rw [List.drop_eq_nil_of_le (by omega : xs.length ≤ k)]
    by_cases hy : k < ys.length
    · rw [drop_getD (d := 0) hy]
      simp only [cmpV]
      omega
    · rw [List.drop_eq_nil_of_le (by omega : ys.length ≤ k)]
      simp only [cmpV]
      omega
theorem ltL_dec : ltL xs ys = (decide (xs.length < ys.length) || (decide (xs.length = ys.length) && decide (cmpV xs ys < 0))) := by
  rw [Bool.eq_iff_iff, ltL_iff]
  simp only [Bool.or_eq_true, Bool.and_eq_true, decide_eq_true_eq]
end

theorem bits6_ret (n : Nat) (w : World) (hn : n < 1048576) : Ret Tryz.prog 41 [vint (n : Int)] w (fun v w' => ∃ ra0 rc0, v = .slice ra0 (bitsL n).length rc0 ∧ w'.ownsRow w.heap.size 3 1 (.slice ra0 (bitsL n).length rc0) (bitsL n).length ((bitsL n).map vint) ∧ Ext w w') := by
 have hB := Below.refl w.heap.size w
 have hsz : w.heap.size ≤ w.heap.size := Nat.le_refl _
 refine ret_of_runs (args := [_]) Tryz.func41 rfl (Nat.le_of_ble_eq_true rfl) (by kernel_rfl) (r_seq (r_region' (l_q (qas rfl rfl) (l_nil (r_seq (r_region' (l_q (qas rfl rfl) (l_nil (r_seq (r_seq (r_region' (l_q (qai rfl rfl) (l_nil (r_block (r_rounds (α := Nat × (Option Addr) × Nat) (fun ⟨k, oa, oc⟩ e wl => Knows e [(0, vint (n : Int)), (3, .slice oa ((bitsK n k).length) oc), (4, vint (k : Int))] ∧ (k ≤ 20) ∧ (wl.ownsRow w.heap.size 3 1 (.slice oa ((bitsK n k).length) oc) ((bitsK n k).length) ((bitsK n k).map vint)) ∧ (w.heap.size ≤ wl.heap.size) ∧ (Below w.heap.size w wl)) (fun ⟨k, oa, oc⟩ => 20 - k) (0, none, 0) ?_ ?_)))))))))))))))
 ·
  exact ⟨⟨rfl, rfl, rfl, trivial⟩, (Nat.zero_le _), (World.ownsRow_nil _ _ _ _), hsz, hB⟩
 ·
  rintro ⟨k, oa, oc⟩ el1 wl1 ⟨hkn, hkk, ho, hsz, hB⟩ ih1
  obtain ⟨e1, rfl⟩ := knows_env hkn
  refine r_seq (r_seq ?_)
  obtain ⟨q, hq, hqn⟩ := shr_q n k
  refine r_region' (l_q (qmi rfl rfl) (l_q (qmi rfl rfl) (l_q (q_toUint Tryz.underlying3 Tryz.underlying64 rfl (by omega) rfl) (l_q (q_shr rfl rfl (by omega) rfl) (l_q (q_gtr rfl rfl rfl) (l_nil (r_cond rfl (fun hc2 => ?_) (fun hc2 => ?_))))))))
  ·
   replace hc2 := dt hc2
   have hk20 : k < 20 := bits_go hn (by rw [← hqn]; omega)
   refine r_skip (r_seq (r_block (r_seq (r_region' (l_q (qmi rfl rfl) (l_q (qmi rfl rfl) (l_q (q_toUint Tryz.underlying3 Tryz.underlying64 rfl (by omega) rfl) (l_q (q_shr rfl rfl (by omega) rfl) (l_q (q_rem rfl rfl (by omega) rfl) (l_q (q_eql rfl rfl rfl) (l_nil (r_forget [(0, .int _ _), (3, .slice _ _ _), (4, .int _ _), (17, .bool _)] ⟨rfl, rfl, rfl, rfl, trivial⟩ (fun e3 => (r_cond rfl (fun hc4 => ?_) (fun hc4 => ?_)))))))))))))))
   ·
    replace hc4 := dt hc4
    have hsl := bitsK_len (n := n) (k := k)
    have hst := bitsK_yes (n := n) (k := k) (decide_eq_true (by rw [← hqn]; omega))
    refine r_region' (l_q (qms rfl rfl) (l_q (qmi rfl rfl) (l_o (o_buildSlice (el := 3) (cs := [vint (k : Int)]) Tryz.underlying25 el3 (by decide) (by kernel_rfl) rfl (by decide) rfl ?_))))
    intro b5 w5 hzl5 hzr5 _ hb5 hE5 ho5
    have hbs_b5 : w.heap.size ≤ b5 := Nat.le_trans hsz hzl5
    replace hB := below_ext hB hE5 hsz
    replace ho := own_ext ho hE5
    replace hsz := Nat.le_trans hsz hE5.size
    refine l_o (o_append_map (f := vint) (bitsK n k) ([(k : Int)]) Tryz.underlying25 el3 rfl rfl ho rfl (Row.of_owns ho5) (fun _ => rfl) (by (try simp only [List.length_append, List.length_cons, List.length_nil, List.length_take, List.length_drop, List.length_replicate]); omega) (by omega) rfl ?_)
    intro a6 c6 w6 hz6 ho6 hG6
    replace hB := below_own hB hG6 ho (by omega) hsz
    replace hsz := Nat.le_trans hsz hG6.size
    refine l_q (qas rfl rfl) (l_nil (r_inBlock (r_region' (l_q (qmi rfl rfl) (l_q (q_add rfl rfl (by omega) rfl) (l_q (qai rfl rfl) (l_nil ?_)))))))
    exact ih1 (k + 1, a6, c6) _ _ ⟨⟨rfl, (congrArg (fun z => Value.slice _ (List.length z) _) hst), (vint_eq (by omega)), trivial⟩, (by omega), (hst ▸ ho6), hsz, hB⟩ (by first | omega | (dsimp only; omega))
   ·
    replace hc4 := df hc4
    have hst := bitsK_no (n := n) (k := k) (decide_eq_false (by rw [← hqn]; omega))
    refine r_skip (r_inBlock (r_region' (l_q (qmi rfl rfl) (l_q (q_add rfl rfl (by omega) rfl) (l_q (qai rfl rfl) (l_nil ?_))))))
    exact ih1 (k + 1, oa, oc) _ _ ⟨⟨rfl, (congrArg (fun z => Value.slice _ (List.length z) _) hst), (vint_eq (by omega)), trivial⟩, (by omega), (hst ▸ ho), hsz, hB⟩ (by first | omega | (dsimp only; omega))
  ·
   replace hc2 := dlt hc2
   refine r_exit rfl (r_seq (r_region' (l_q (qms rfl rfl) (l_q (qas rfl rfl) (l_nil (r_ret_ (vs := [.slice _ _ _]) rfl Tryz.func41 rfl (.nil _) ⟨rfl, trivial⟩ ?_))))))
   have hqe : n / 2 ^ k = 0 := by rw [← hqn]; omega
   rw [← bits_stop (n := n) (by omega) hqe] at ho
   exact ⟨_, _, (by rw [bits_stop (n := n) (by omega) hqe]; rfl), ho, Ext.of_below hB⟩
theorem bef6_ret (xa : Option Addr) (xc : Nat) (xs : List Int) (ya : Option Addr) (yc : Nat) (ys : List Int) (w : World) (hx : Row w xa xs.length xc 1 (xs.map vint)) (hxn : xs.length ≤ 2097152) (hy : Row w ya ys.length yc 1 (ys.map vint)) (hyn : ys.length ≤ 2097152) : Ret Tryz.prog 52 [.slice xa xs.length xc, .slice ya ys.length yc] w (fun v w' => v = .bool (decide (cmpV xs ys < 0)) ∧ Ext w w') := by
 have hB := Below.refl w.heap.size w
 have hsz : w.heap.size ≤ w.heap.size := Nat.le_refl _
 refine ret_of_runs (args := [_, _]) Tryz.func52 rfl (Nat.le_of_ble_eq_true rfl) (by kernel_rfl) (r_seq (r_region' (l_q (qab rfl rfl) (l_nil (r_seq (r_seq (r_region' (l_q (qai rfl rfl) (l_nil (r_block (r_rounds (α := Nat) (fun k e wl => Knows e [(0, .slice xa xs.length xc), (1, .slice ya ys.length yc), (5, vint (k : Int))] ∧ (k ≤ xs.length) ∧ (k ≤ ys.length) ∧ (cmpV xs ys = cmpV (xs.drop k) (ys.drop k)) ∧ (w.heap.size ≤ wl.heap.size) ∧ (Below w.heap.size w wl)) (fun k => xs.length - k) 0 ?_ ?_)))))))))))
 ·
  exact ⟨⟨rfl, rfl, rfl, trivial⟩, (Nat.zero_le _), (Nat.zero_le _), rfl, hsz, hB⟩
 ·
  rintro k el1 wl1 ⟨hkn, hkk, hky, hq, hsz, hB⟩ ih1
  obtain ⟨e1, rfl⟩ := knows_env hkn
  refine r_seq (r_seq (r_region' (l_q (qmi rfl rfl) (l_q (qms rfl rfl) (l_q (q_len rfl Tryz.underlying25 rfl rfl) (l_q (q_lss rfl rfl rfl) (l_q (qmb rfl rfl) (l_part 10 rfl (fun hc2 => ?_) (fun hc2 => ?_)))))))))
  ·
   replace hc2 := dt hc2
   have hkx : k < xs.length := by omega
   refine l_q (qmi rfl rfl) (l_q (qms rfl rfl) (l_q (q_len rfl Tryz.underlying25 rfl rfl) (l_q (q_lss rfl rfl rfl) (l_q (q_pick_t (v := .bool _) rfl rfl rfl) (l_nil (r_cond rfl (fun hc3 => ?_) (fun hc3 => ?_)))))))
   ·
    replace hc3 := dt hc3
    have hky2 : k < ys.length := by omega
    refine r_skip (r_seq (r_block (r_seq (r_draw ext_refl' ext_trans' [0, 1, 2, 3, 4, 5, 6, 7, 8] [] 9 (by kernel_rfl) (by kernel_rfl) ?_))))
    intro w4 _ hE4
    replace hB := below_ext hB hE4 hsz
    replace hsz := Nat.le_trans hsz hE4.size
    refine m_q rfl rfl (fun w' hC' => qms rfl rfl) (m_q rfl rfl (fun w' hC' => qmi rfl rfl) ?_)
    obtain ⟨b5, o5, ha5, hh5⟩ := (hx.below hB).at1 k ((xs).getD k 0) (getD_some (by omega))
    refine m_q rfl rfl (fun w' hC' => q_indexAddr1 Tryz.underlying25 Tryz.sizeOf3 rfl ha5 rfl (by omega) rfl) (m_q rfl rfl (fun w' hC' => q_load Tryz.isAgg3 rfl ((hh5.ext hC')) rfl) (m_q rfl rfl (fun w' hC' => qms rfl rfl) (m_q rfl rfl (fun w' hC' => qmi rfl rfl) ?_)))
    obtain ⟨b6, o6, ha6, hh6⟩ := (hy.below hB).at1 k ((ys).getD k 0) (getD_some (by omega))
    refine m_q rfl rfl (fun w' hC' => q_indexAddr1 Tryz.underlying25 Tryz.sizeOf3 rfl ha6 rfl (by omega) rfl) (m_q rfl rfl (fun w' hC' => q_load Tryz.isAgg3 rfl ((hh6.ext hC')) rfl) (m_q rfl rfl (fun w' hC' => q_neq rfl rfl rfl) (m_nil (r_forget [(0, .slice _ _ _), (1, .slice _ _ _), (5, .int _ _), (26, .bool _)] ⟨rfl, rfl, rfl, rfl, trivial⟩ (fun e7 => (r_cond rfl (fun hc8 => ?_) (fun hc8 => ?_)))))))
    ·
     replace hc8 := df (nt hc8)
     have g26 := hc8
     refine r_seq (r_draw ext_refl' ext_trans' [0, 1, 2, 3, 4, 5, 6, 7, 8, 9] [] 9 (by kernel_rfl) (by kernel_rfl) ?_)
     intro w9 _ hE9
     replace hB := below_ext hB hE9 hsz
     replace hsz := Nat.le_trans hsz hE9.size
     refine m_q rfl rfl (fun w' hC' => qms rfl rfl) (m_q rfl rfl (fun w' hC' => qmi rfl rfl) ?_)
     obtain ⟨b10, o10, ha10, hh10⟩ := (hx.below hB).at1 k ((xs).getD k 0) (getD_some (by omega))
     refine m_q rfl rfl (fun w' hC' => q_indexAddr1 Tryz.underlying25 Tryz.sizeOf3 rfl ha10 rfl (by omega) rfl) (m_q rfl rfl (fun w' hC' => q_load Tryz.isAgg3 rfl ((hh10.ext hC')) rfl) (m_q rfl rfl (fun w' hC' => qms rfl rfl) (m_q rfl rfl (fun w' hC' => qmi rfl rfl) ?_)))
     obtain ⟨b11, o11, ha11, hh11⟩ := (hy.below hB).at1 k ((ys).getD k 0) (getD_some (by omega))
     refine m_q rfl rfl (fun w' hC' => q_indexAddr1 Tryz.underlying25 Tryz.sizeOf3 rfl ha11 rfl (by omega) rfl) (m_q rfl rfl (fun w' hC' => q_load Tryz.isAgg3 rfl ((hh11.ext hC')) rfl) (m_q rfl rfl (fun w' hC' => q_lss rfl rfl rfl) (m_q rfl rfl (fun w' hC' => qab rfl rfl) (m_nil (r_forget [(4, .bool _)] ⟨rfl, trivial⟩ (fun e12 => (r_ret_ (vs := [.bool _]) rfl Tryz.func52 rfl (.nil _) ⟨rfl, trivial⟩ ?_)))))))
     exact ⟨vbool_eq (by rw [hq, cmpV_ne hkx hky2 g26]), Ext.of_below hB⟩
    ·
     replace hc8 := dt (nf hc8)
     have g26 := hc8
     refine r_skip (r_inBlock (r_region' (l_q (qmi rfl rfl) (l_q (q_add rfl rfl (by omega) rfl) (l_q (qai rfl rfl) (l_nil ?_))))))
     exact ih1 (k + 1) _ _ ⟨⟨rfl, rfl, (vint_eq (by omega)), trivial⟩, (by omega), (by omega), (hq.trans (cmpV_eq hkx hky2 g26)), hsz, hB⟩ (by first | omega | (dsimp only; omega))
   ·
    replace hc3 := dlt hc3
    have hkyn := hc3
    refine r_exit rfl (r_seq (r_region' (l_q (qms rfl rfl) (l_q (q_len rfl Tryz.underlying25 rfl rfl) (l_q (qms rfl rfl) (l_q (q_len rfl Tryz.underlying25 rfl rfl) (l_q (q_lss rfl rfl rfl) (l_q (qab rfl rfl) (l_nil (r_forget [(4, .bool _)] ⟨rfl, trivial⟩ (fun e13 => (r_ret_ (vs := [.bool _]) rfl Tryz.func52 rfl (.nil _) ⟨rfl, trivial⟩ ?_))))))))))))
    exact ⟨vbool_eq (by rw [hq, cmpV_out hkk hky (by omega), decide_eq_decide]; omega), Ext.of_below hB⟩
  ·
   replace hc2 := dlt hc2
   have hkx2 := hc2
   refine l_q (q_skip rfl) (l_q (q_skip rfl) (l_q (q_skip rfl) (l_q (q_skip rfl) (l_q (q_pick_f (v := .bool _) rfl rfl rfl) (l_nil (r_cond_f rfl (r_exit rfl (r_seq (r_region' (l_q (qms rfl rfl) (l_q (q_len rfl Tryz.underlying25 rfl rfl) (l_q (qms rfl rfl) (l_q (q_len rfl Tryz.underlying25 rfl rfl) (l_q (q_lss rfl rfl rfl) (l_q (qab rfl rfl) (l_nil (r_forget [(4, .bool _)] ⟨rfl, trivial⟩ (fun e14 => (r_ret_ (vs := [.bool _]) rfl Tryz.func52 rfl (.nil _) ⟨rfl, trivial⟩ ?_)))))))))))))))))))
   exact ⟨vbool_eq (by rw [hq, cmpV_out hkk hky (by omega), decide_eq_decide]; omega), Ext.of_below hB⟩
theorem short6_ret (xa : Option Addr) (xc : Nat) (xs : List Int) (ya : Option Addr) (yc : Nat) (ys : List Int) (w : World) (hx : Row w xa xs.length xc 1 (xs.map vint)) (hxn : xs.length ≤ 2097152) (hy : Row w ya ys.length yc 1 (ys.map vint)) (hyn : ys.length ≤ 2097152) : Ret Tryz.prog 43 [.slice xa xs.length xc, .slice ya ys.length yc] w (fun v w' => v = .bool (ltL xs ys) ∧ Ext w w') := by
 have hB := Below.refl w.heap.size w
 have hsz : w.heap.size ≤ w.heap.size := Nat.le_refl _
 refine ret_of_runs (args := [_, _]) Tryz.func43 rfl (Nat.le_of_ble_eq_true rfl) (by kernel_rfl) (r_seq (r_region' (l_q (qab rfl rfl) (l_nil (r_seq (r_region' (l_q (qms rfl rfl) (l_q (q_len rfl Tryz.underlying25 rfl rfl) (l_q (qms rfl rfl) (l_q (q_len rfl Tryz.underlying25 rfl rfl) (l_q (q_lss rfl rfl rfl) (l_q (qmb rfl rfl) (l_part 10 rfl (fun hc1 => ?_) (fun hc1 => ?_))))))))))))))
 ·
  replace hc1 := dt hc1
  have g10 := hc1
  refine l_q (q_skip rfl) (l_q (q_skip rfl) (l_q (q_skip rfl) (l_q (q_skip rfl) (l_q (q_skip rfl) (l_q (q_skip rfl) (l_q (q_skip rfl) (l_q (q_skip rfl) (l_q (q_skip rfl) (l_q (q_skip rfl) (l_q (q_pick_t (v := .bool _) rfl rfl rfl) (l_q (qab rfl rfl) (l_nil (r_forget [(4, .bool _)] ⟨rfl, trivial⟩ (fun e2 => (r_ret_ (vs := [.bool _]) rfl Tryz.func43 rfl (.nil _) ⟨rfl, trivial⟩ ?_)))))))))))))))
  exact ⟨vbool_eq (by rw [ltL_dec]; first | (rw [decide_eq_false (by omega : ¬ xs.length < ys.length), decide_eq_true (by omega : xs.length = ys.length)]; rfl) | (rw [decide_eq_true (by omega : xs.length < ys.length)]; rfl) | (rw [decide_eq_false (by omega : ¬ xs.length < ys.length), decide_eq_false (by omega : ¬ xs.length = ys.length)]; rfl)), Ext.of_below hB⟩
 ·
  replace hc1 := dlt hc1
  have g10 := hc1
  refine l_q (qms rfl rfl) (l_q (q_len rfl Tryz.underlying25 rfl rfl) (l_q (qms rfl rfl) (l_q (q_len rfl Tryz.underlying25 rfl rfl) (l_q (q_eql rfl rfl rfl) (l_q (qmb rfl rfl) (l_part 16 rfl (fun hc3 => ?_) (fun hc3 => ?_)))))))
  ·
   replace hc3 := dt hc3
   have g16 := hc3
   refine l_q (qms rfl rfl) (l_q (qms rfl rfl) (l_o (o_call Tryz.call52 rfl (bef6_ret _ _ xs _ _ ys _ (hx.below hB) (by omega) (hy.below hB) (by omega)) rfl ?_)))
   rintro _ w4 ⟨rfl, hE4⟩
   replace hB := below_ext hB hE4 hsz
   replace hsz := Nat.le_trans hsz hE4.size
   refine l_q (q_pick_t (v := .bool _) rfl rfl rfl) (l_q (q_pick_f (v := .bool _) rfl rfl rfl) (l_q (qab rfl rfl) (l_nil (r_forget [(4, .bool _)] ⟨rfl, trivial⟩ (fun e5 => (r_ret_ (vs := [.bool _]) rfl Tryz.func43 rfl (.nil _) ⟨rfl, trivial⟩ ?_))))))
   exact ⟨vbool_eq (by rw [ltL_dec]; first | (rw [decide_eq_false (by omega : ¬ xs.length < ys.length), decide_eq_true (by omega : xs.length = ys.length)]; rfl) | (rw [decide_eq_true (by omega : xs.length < ys.length)]; rfl) | (rw [decide_eq_false (by omega : ¬ xs.length < ys.length), decide_eq_false (by omega : ¬ xs.length = ys.length)]; rfl)), Ext.of_below hB⟩
  ·
   replace hc3 := df hc3
   have g16 := hc3
   refine l_q (q_skip rfl) (l_q (q_skip rfl) (l_q (q_skip rfl) (l_q (q_pick_f (v := .bool _) rfl rfl rfl) (l_q (q_pick_f (v := .bool _) rfl rfl rfl) (l_q (qab rfl rfl) (l_nil (r_forget [(4, .bool _)] ⟨rfl, trivial⟩ (fun e6 => (r_ret_ (vs := [.bool _]) rfl Tryz.func43 rfl (.nil _) ⟨rfl, trivial⟩ ?_)))))))))
   exact ⟨vbool_eq (by rw [ltL_dec]; first | (rw [decide_eq_false (by omega : ¬ xs.length < ys.length), decide_eq_true (by omega : xs.length = ys.length)]; rfl) | (rw [decide_eq_true (by omega : xs.length < ys.length)]; rfl) | (rw [decide_eq_false (by omega : ¬ xs.length < ys.length), decide_eq_false (by omega : ¬ xs.length = ys.length)]; rfl)), Ext.of_below hB⟩
end Go.Proofs.YtekkdhpgcilpdaaGreat
