/- Contracts. -/
import Derived.Test.YtgdanglidienmaaRQ
import Derived.Test.YtgdanglidienmaaGvTy3
set_option linter.unusedVariables false
set_option linter.unusedSimpArgs false
namespace Go.Proofs.Ytgdanglidienmaa
open Go Go.RowKit Go.Gv Go.Fl

theorem bits_go {n k : Nat} (hn : n < 1048576) (h : 0 < n / 2 ^ k) : k < 20 := by
  rcases Nat.lt_or_ge k 20 with h1 | h1
  · exact h1
  · have : n < 2 ^ k := Nat.lt_of_lt_of_le hn (Nat.pow_le_pow_right (n := 2) (by decide) h1)
    rw [Nat.div_eq_of_lt this] at h; omega
theorem bits_stop {n k : Nat} (hk : k ≤ 20) (h : n / 2 ^ k = 0) : bitsL n = bitsK n k := by
  have h1 : n < 2 ^ k := by
    rcases Nat.lt_or_ge n (2 ^ k) with h2 | h2
    · exact h2
    · have := Nat.div_pos h2 (Nat.two_pow_pos k); omega
  exact bits_eq h1 hk
theorem bitsK_len {n k : Nat} : (bitsK n k).length ≤ k := by
  unfold bitsK
  rw [List.length_map]
  have := List.length_filter_le (bitB n) (List.range k)
  rwa [List.length_range] at this
theorem bits_len (n : Nat) : (bitsL n).length ≤ 20 := by
  unfold bitsL bitsK
  rw [List.length_map]
  have := List.length_filter_le (bitB n) (List.range 20)
  rwa [List.length_range] at this


theorem bits_ret (n : Nat) (w : World) (hn : n < 1048576) : Ret Try.prog 11 [vint (n : Int)] w (fun v w' => ∃ ra0 rc0, v = .slice ra0 (bitsL n).length rc0 ∧ w'.ownsRow w.heap.size 3 1 (.slice ra0 (bitsL n).length rc0) (bitsL n).length ((bitsL n).map vint) ∧ Ext w w') := by
 have hB := Below.refl w.heap.size w
 have hsz : w.heap.size ≤ w.heap.size := Nat.le_refl _
 refine ret_of_runs (args := [_]) Try.func11 rfl (Nat.le_of_ble_eq_true rfl) (by kernel_rfl) ?_
 refine r_seq (r_region' ?_)
 refine l_q (q_assign (v := .slice _ _ _) rfl rfl) ?_
 refine l_nil (r_seq (r_region' ?_))
 refine l_q (q_assign (v := .slice _ _ _) rfl rfl) ?_
 refine l_nil (r_seq (r_seq (r_region' ?_)))
 refine l_q (q_assign (v := .int _ _) rfl rfl) ?_
 refine l_nil (r_block ?_)
 refine r_rounds (α := Nat × (Option Addr) × Nat) (fun ⟨k, oa, oc⟩ e wl => Knows e [(0, vint (n : Int)), (3, .slice oa ((bitsK n k).length) oc), (4, vint (k : Int))] ∧ (k ≤ 20) ∧ (wl.ownsRow w.heap.size 3 1 (.slice oa ((bitsK n k).length) oc) ((bitsK n k).length) ((bitsK n k).map vint)) ∧ (w.heap.size ≤ wl.heap.size) ∧ (Below w.heap.size w wl)) (fun ⟨k, oa, oc⟩ => 20 - k) (0, none, 0) ?_ ?_
 ·
  exact ⟨⟨rfl, rfl, rfl, trivial⟩, (Nat.zero_le _), (World.ownsRow_nil _ _ _ _), hsz, hB⟩
 ·
  rintro ⟨k, oa, oc⟩ el1 wl1 ⟨hkn, hkk, ho, hsz, hB⟩ ih1
  obtain ⟨e1, rfl⟩ := knows_env hkn
  refine r_seq (r_seq ?_)
  obtain ⟨q, hq, hqn⟩ := shr_q n k
  refine r_region' ?_
  refine l_q (q_move (v := .int _ _) rfl rfl) ?_
  refine l_q (q_move (v := .int _ _) rfl rfl) ?_
  refine l_q (q_toUint Try.underlying3 Try.underlying42 rfl (by omega) rfl) ?_
  refine l_q (q_shr rfl rfl (by omega) rfl) ?_
  refine l_q (q_gtr rfl rfl rfl) ?_
  refine l_nil ?_
  refine r_cond rfl (fun hc2 => ?_) (fun hc2 => ?_)
  ·
   replace hc2 := dt hc2
   have hk20 : k < 20 := bits_go hn (by rw [← hqn]; omega)
   refine r_skip (r_seq (r_block (r_seq (r_region' ?_))))
   refine l_q (q_move (v := .int _ _) rfl rfl) ?_
   refine l_q (q_move (v := .int _ _) rfl rfl) ?_
   refine l_q (q_toUint Try.underlying3 Try.underlying42 rfl (by omega) rfl) ?_
   refine l_q (q_shr rfl rfl (by omega) rfl) ?_
   refine l_q (q_rem rfl rfl (by omega) rfl) ?_
   refine l_q (q_eql rfl rfl rfl) ?_
   refine l_nil ?_
   refine r_forget [(0, .int _ _), (3, .slice _ _ _), (4, .int _ _), (17, .bool _)] ⟨rfl, rfl, rfl, rfl, trivial⟩ (fun e3 => ?_)
   refine r_cond rfl (fun hc4 => ?_) (fun hc4 => ?_)
   ·
    replace hc4 := dt hc4
    have hsl := bitsK_len (n := n) (k := k)
    have hst := bitsK_yes (n := n) (k := k) (decide_eq_true (by rw [← hqn]; omega))
    refine r_region' ?_
    refine l_q (q_move (v := .slice _ _ _) rfl rfl) ?_
    refine l_q (q_move (v := .int _ _) rfl rfl) ?_
    refine l_o (o_buildSlice (el := 3) (cs := [vint (k : Int)]) Try.underlying22 el3 (by decide) (by kernel_rfl) rfl (by decide) rfl ?_)
    intro b5 w5 hzl5 hzr5 _ hb5 hE5 ho5
    have hbs_b5 : w.heap.size ≤ b5 := Nat.le_trans hsz hzl5
    replace hB := below_ext hB hE5 hsz
    replace ho := own_ext ho hE5
    replace hsz := Nat.le_trans hsz hE5.size
    refine l_o (o_append_map (f := vint) (bitsK n k) ([(k : Int)]) Try.underlying22 el3 rfl rfl ho rfl (Row.of_owns ho5) (fun _ => rfl) (by (try simp only [List.length_append, List.length_cons, List.length_nil, List.length_take, List.length_drop, List.length_replicate]); omega) (by omega) rfl ?_)
    intro a6 c6 w6 hz6 ho6 hG6
    replace hB := below_own hB hG6 ho (by omega) hsz
    replace hsz := Nat.le_trans hsz hG6.size
    refine l_q (q_assign (v := .slice _ _ _) rfl rfl) ?_
    refine l_nil (r_inBlock (r_region' ?_))
    refine l_q (q_move (v := .int _ _) rfl rfl) ?_
    refine l_q (q_add rfl rfl (by omega) rfl) ?_
    refine l_q (q_assign (v := .int _ _) rfl rfl) ?_
    refine l_nil ?_
    exact ih1 (k + 1, a6, c6) _ _ ⟨⟨rfl, (congrArg (fun z => Value.slice _ (List.length z) _) hst), by first | rfl | exact vint_eq (by omega), trivial⟩, (by omega), (hst ▸ ho6), hsz, hB⟩ (by first | omega | (dsimp only; omega))
   ·
    replace hc4 := df hc4
    have hst := bitsK_no (n := n) (k := k) (decide_eq_false (by rw [← hqn]; omega))
    refine r_skip (r_inBlock (r_region' ?_))
    refine l_q (q_move (v := .int _ _) rfl rfl) ?_
    refine l_q (q_add rfl rfl (by omega) rfl) ?_
    refine l_q (q_assign (v := .int _ _) rfl rfl) ?_
    refine l_nil ?_
    exact ih1 (k + 1, oa, oc) _ _ ⟨⟨rfl, (congrArg (fun z => Value.slice _ (List.length z) _) hst), by first | rfl | exact vint_eq (by omega), trivial⟩, (by omega), (hst ▸ ho), hsz, hB⟩ (by first | omega | (dsimp only; omega))
  ·
   replace hc2 := dlt hc2
   refine r_exit rfl ?_
   refine r_seq (r_region' ?_)
   refine l_q (q_move (v := .slice _ _ _) rfl rfl) ?_
   refine l_q (q_assign (v := .slice _ _ _) rfl rfl) ?_
   refine l_nil ?_
   refine r_ret_ (vs := [.slice _ _ _]) rfl Try.func11 rfl (.nil _) ⟨rfl, trivial⟩ ?_
   have hqe : n / 2 ^ k = 0 := by rw [← hqn]; omega
   rw [← bits_stop (n := n) (by omega) hqe] at ho
   exact ⟨_, _, (by rw [bits_stop (n := n) (by omega) hqe]; rfl), ho, Ext.of_below hB⟩
end Go.Proofs.Ytgdanglidienmaa
