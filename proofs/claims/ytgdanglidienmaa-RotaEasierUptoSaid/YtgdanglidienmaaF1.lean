/- Contracts. -/
import Derived.Test.YtgdanglidienmaaProg
import Derived.Test.YtgdanglidienmaaGvA
import Derived.Test.YtgdanglidienmaaFl
set_option linter.unusedVariables false
set_option linter.unusedSimpArgs false
namespace Go.Proofs.Ytgdanglidienmaa
open Go Go.RowKit Go.Gv Go.Fl

theorem ib_nonneg (s : List UInt8) (b : UInt8) : decide (0 ≤ Lib.indexByte s b) = s.contains b := by
  have h : ∀ s : List UInt8, -1 ≤ Lib.indexByte s b ∧ (0 ≤ Lib.indexByte s b ↔ b ∈ s) := by
    intro s
    induction s with
    | nil => simp [Lib.indexByte]
    | cons x l ih =>
      unfold Lib.indexByte
      by_cases hx : x = b
      · subst hx; simp
      · have hx' : (x == b) = false := by simpa using hx
        have hb : ¬ b = x := fun h => hx h.symm
        rw [hx']
        simp only [Bool.false_eq_true, if_false, List.mem_cons, hb, false_or, beq_iff_eq]
        by_cases h1 : Lib.indexByte l b = -1
        · simp [h1]; intro hm; have := ih.2.2 hm; omega
        · rw [if_neg h1]; constructor
          · omega
          · rw [← ih.2]; omega
  rw [Bool.eq_iff_iff, decide_eq_true_eq, (h s).2, List.contains_iff_mem]


theorem indexFunc_int_ret (a : Option Addr) (n c : Nat) (cs : List Value) (g : FuncId) (fst cap : List Value) (p : Nat → Bool) (w : World) (hrow : Row w a n c 1 cs) (hp : PredI Try.prog w g fst cap cs p) (hn : n ≤ 9223372036854775806) : Ret Try.prog 96 [.slice a n c, .func (.func g) ⟨fst⟩ ⟨cap⟩] w (fun v w' => v = vint (idxI p n) ∧ Ext w w') := by
 have hl : cs.length = n := by have := hrow.1; omega
 have hB := Below.refl w.heap.size w
 have hsz : w.heap.size ≤ w.heap.size := Nat.le_refl _
 refine ret_of_runs (args := [_, _]) Try.func96 rfl (Nat.le_of_ble_eq_true rfl) (by kernel_rfl) ?_
 refine r_seq (r_region' ?_)
 refine l_q (q_assign (v := .int _ _) rfl rfl) ?_
 refine l_nil (r_seq (r_seq (r_region' ?_)))
 refine l_q (q_move (v := .slice _ _ _) rfl rfl) ?_
 refine l_q (q_len rfl Try.underlying22 rfl rfl) ?_
 refine l_q (q_move (v := .int _ _) rfl rfl) ?_
 refine l_nil (r_block ?_)
 refine r_rounds (α := Nat) (fun k e wl => Knows e [(0, .slice a n c), (1, .func (.func g) ⟨fst⟩ ⟨cap⟩), (7, vint (n : Int)), (8, vint (k : Int))] ∧ (k ≤ n) ∧ (∀ i, i < k → p i = false) ∧ (w.heap.size ≤ wl.heap.size) ∧ (Below w.heap.size w wl)) (fun k => n - k) 0 ?_ ?_
 ·
  exact ⟨⟨rfl, rfl, rfl, rfl, trivial⟩, (Nat.zero_le _), (fun i hi => absurd hi (Nat.not_lt_zero _)), hsz, hB⟩
 ·
  rintro k el1 wl1 ⟨hkn, hk, hno, hsz, hB⟩ ih1
  obtain ⟨e1, rfl⟩ := knows_env hkn
  refine r_seq (r_region' ?_)
  refine l_q (q_lss rfl rfl rfl) ?_
  refine l_nil (r_seq ?_)
  refine r_cond rfl (fun hc2 => ?_) (fun hc2 => ?_)
  ·
   replace hc2 := dt hc2
   refine r_skip (r_seq (r_block (r_seq (r_region' ?_))))
   refine l_q (q_move (v := .int _ _) rfl rfl) ?_
   refine l_q (q_assign (v := .int _ _) rfl rfl) ?_
   refine l_nil (r_seq (r_region' ?_))
   refine l_q (q_move (v := .func _ _ _) rfl rfl) ?_
   refine l_q (q_move (v := .slice _ _ _) rfl rfl) ?_
   refine l_q (q_move (v := .int _ _) rfl rfl) ?_
   obtain ⟨b3, o3, ha3, hh3⟩ := (hrow.below hB).at1r k ((cs).getD k undef) (getD_some (by omega))
   refine l_q (q_indexAddr1 Try.underlying22 Try.sizeOf3 rfl ha3 rfl (by omega) rfl) ?_
   refine l_q (q_load Try.isAgg3 rfl (hh3) rfl) ?_
   refine l_o (o_callv (f := g) (fst := fst) (cap := cap) rfl hp.1 rfl (hp.2 _ (Ext.of_below hB) k _ (getD_some (by omega))) rfl ?_)
   rintro _ w4 ⟨rfl, hE4⟩
   replace hB := below_ext hB hE4 hsz
   replace hsz := Nat.le_trans hsz hE4.size
   refine l_nil ?_
   refine r_cond rfl (fun hc5 => ?_) (fun hc5 => ?_)
   ·
    refine r_seq (r_region' ?_)
    refine l_q (q_move (v := .int _ _) rfl rfl) ?_
    refine l_q (q_assign (v := .int _ _) rfl rfl) ?_
    refine l_nil ?_
    refine r_forget [(4, .int _ _)] ⟨rfl, trivial⟩ (fun e6 => ?_)
    refine r_ret_ (vs := [.int _ _]) rfl Try.func96 rfl (.nil _) ⟨rfl, trivial⟩ ?_
    exact ⟨vint_eq (idxI_found (by omega) (by assumption) hno).symm, Ext.of_below hB⟩
   ·
    refine r_skip (r_inBlock (r_region' ?_))
    refine l_q (q_add rfl rfl (by omega) rfl) ?_
    refine l_q (q_move (v := .int _ _) rfl rfl) ?_
    refine l_nil ?_
    refine r_forget [(0, .slice _ _ _), (1, .func _ _ _), (7, .int _ _), (8, .int _ _)] ⟨rfl, rfl, rfl, rfl, trivial⟩ (fun e7 => ?_)
    exact ih1 (k + 1) _ _ ⟨⟨rfl, rfl, rfl, by first | rfl | exact vint_eq (by omega), trivial⟩, (by omega), (fun i hi => by rcases Nat.lt_succ_iff_lt_or_eq.1 hi with h | h; exact hno i h; subst h; assumption), hsz, hB⟩ (by first | omega | (dsimp only; omega))
  ·
   replace hc2 := dlt hc2
   refine r_exit rfl ?_
   refine r_seq (r_region' ?_)
   refine l_q (q_assign (v := .int _ _) rfl rfl) ?_
   refine l_nil ?_
   refine r_ret_ (vs := [.int _ _]) rfl Try.func96 rfl (.nil _) ⟨rfl, trivial⟩ ?_
   exact ⟨vint_eq (idxI_none (fun i hi => hno i (by omega))).symm, Ext.of_below hB⟩
theorem containsFunc_int_ret (a : Option Addr) (n c : Nat) (cs : List Value) (g : FuncId) (fst cap : List Value) (p : Nat → Bool) (w : World) (hrow : Row w a n c 1 cs) (hp : PredI Try.prog w g fst cap cs p) (hn : n ≤ 9223372036854775806) : Ret Try.prog 81 [.slice a n c, .func (.func g) ⟨fst⟩ ⟨cap⟩] w (fun v w' => v = .bool ((List.range n).any p) ∧ Ext w w') := by
 have hB := Below.refl w.heap.size w
 have hsz : w.heap.size ≤ w.heap.size := Nat.le_refl _
 refine ret_of_runs (args := [_, _]) Try.func81 rfl (Nat.le_of_ble_eq_true rfl) (by kernel_rfl) ?_
 refine r_seq (r_region' ?_)
 refine l_q (q_assign (v := .bool _) rfl rfl) ?_
 refine l_nil (r_seq (r_region' ?_))
 refine l_q (q_move (v := .slice _ _ _) rfl rfl) ?_
 refine l_q (q_move (v := .func _ _ _) rfl rfl) ?_
 refine l_o (o_call Try.call96 rfl (indexFunc_int_ret _ _ _ _ _ _ _ _ _ (hrow.below hB) (hp.ext (Ext.of_below hB)) hn) rfl ?_)
 rintro _ w1 ⟨rfl, hE1⟩
 replace hB := below_ext hB hE1 hsz
 replace hsz := Nat.le_trans hsz hE1.size
 refine l_q (q_geq rfl rfl rfl) ?_
 refine l_q (q_assign (v := .bool _) rfl rfl) ?_
 refine l_nil ?_
 refine r_ret_ (vs := [.bool _]) rfl Try.func81 rfl (.nil _) ⟨rfl, trivial⟩ ?_
 exact ⟨vbool_eq (idxI_nonneg p n), Ext.of_below hB⟩
theorem indexFunc_ints_ret (a : Option Addr) (n c : Nat) (cs : List Value) (g : FuncId) (fst cap : List Value) (p : Nat → Bool) (w : World) (hrow : Row w a n c 1 cs) (hp : PredI Try.prog w g fst cap cs p) (hn : n ≤ 9223372036854775806) : Ret Try.prog 98 [.slice a n c, .func (.func g) ⟨fst⟩ ⟨cap⟩] w (fun v w' => v = vint (idxI p n) ∧ Ext w w') := by
 have hl : cs.length = n := by have := hrow.1; omega
 have hB := Below.refl w.heap.size w
 have hsz : w.heap.size ≤ w.heap.size := Nat.le_refl _
 refine ret_of_runs (args := [_, _]) Try.func98 rfl (Nat.le_of_ble_eq_true rfl) (by kernel_rfl) ?_
 refine r_seq (r_region' ?_)
 refine l_q (q_assign (v := .int _ _) rfl rfl) ?_
 refine l_nil (r_seq (r_seq (r_region' ?_)))
 refine l_q (q_move (v := .slice _ _ _) rfl rfl) ?_
 refine l_q (q_len rfl Try.underlying24 rfl rfl) ?_
 refine l_q (q_move (v := .int _ _) rfl rfl) ?_
 refine l_nil (r_block ?_)
 refine r_rounds (α := Nat) (fun k e wl => Knows e [(0, .slice a n c), (1, .func (.func g) ⟨fst⟩ ⟨cap⟩), (7, vint (n : Int)), (8, vint (k : Int))] ∧ (k ≤ n) ∧ (∀ i, i < k → p i = false) ∧ (w.heap.size ≤ wl.heap.size) ∧ (Below w.heap.size w wl)) (fun k => n - k) 0 ?_ ?_
 ·
  exact ⟨⟨rfl, rfl, rfl, rfl, trivial⟩, (Nat.zero_le _), (fun i hi => absurd hi (Nat.not_lt_zero _)), hsz, hB⟩
 ·
  rintro k el1 wl1 ⟨hkn, hk, hno, hsz, hB⟩ ih1
  obtain ⟨e1, rfl⟩ := knows_env hkn
  refine r_seq (r_region' ?_)
  refine l_q (q_lss rfl rfl rfl) ?_
  refine l_nil (r_seq ?_)
  refine r_cond rfl (fun hc2 => ?_) (fun hc2 => ?_)
  ·
   replace hc2 := dt hc2
   refine r_skip (r_seq (r_block (r_seq (r_region' ?_))))
   refine l_q (q_move (v := .int _ _) rfl rfl) ?_
   refine l_q (q_assign (v := .int _ _) rfl rfl) ?_
   refine l_nil (r_seq (r_region' ?_))
   refine l_q (q_move (v := .func _ _ _) rfl rfl) ?_
   refine l_q (q_move (v := .slice _ _ _) rfl rfl) ?_
   refine l_q (q_move (v := .int _ _) rfl rfl) ?_
   obtain ⟨b3, o3, ha3, hh3⟩ := (hrow.below hB).at1r k ((cs).getD k undef) (getD_some (by omega))
   refine l_q (q_indexAddr1 Try.underlying24 Try.sizeOf22 rfl ha3 rfl (by omega) rfl) ?_
   refine l_q (q_load Try.isAgg22 rfl (hh3) rfl) ?_
   refine l_o (o_callv (f := g) (fst := fst) (cap := cap) rfl hp.1 rfl (hp.2 _ (Ext.of_below hB) k _ (getD_some (by omega))) rfl ?_)
   rintro _ w4 ⟨rfl, hE4⟩
   replace hB := below_ext hB hE4 hsz
   replace hsz := Nat.le_trans hsz hE4.size
   refine l_nil ?_
   refine r_cond rfl (fun hc5 => ?_) (fun hc5 => ?_)
   ·
    refine r_seq (r_region' ?_)
    refine l_q (q_move (v := .int _ _) rfl rfl) ?_
    refine l_q (q_assign (v := .int _ _) rfl rfl) ?_
    refine l_nil ?_
    refine r_forget [(4, .int _ _)] ⟨rfl, trivial⟩ (fun e6 => ?_)
    refine r_ret_ (vs := [.int _ _]) rfl Try.func98 rfl (.nil _) ⟨rfl, trivial⟩ ?_
    exact ⟨vint_eq (idxI_found (by omega) (by assumption) hno).symm, Ext.of_below hB⟩
   ·
    refine r_skip (r_inBlock (r_region' ?_))
    refine l_q (q_add rfl rfl (by omega) rfl) ?_
    refine l_q (q_move (v := .int _ _) rfl rfl) ?_
    refine l_nil ?_
    refine r_forget [(0, .slice _ _ _), (1, .func _ _ _), (7, .int _ _), (8, .int _ _)] ⟨rfl, rfl, rfl, rfl, trivial⟩ (fun e7 => ?_)
    exact ih1 (k + 1) _ _ ⟨⟨rfl, rfl, rfl, by first | rfl | exact vint_eq (by omega), trivial⟩, (by omega), (fun i hi => by rcases Nat.lt_succ_iff_lt_or_eq.1 hi with h | h; exact hno i h; subst h; assumption), hsz, hB⟩ (by first | omega | (dsimp only; omega))
  ·
   replace hc2 := dlt hc2
   refine r_exit rfl ?_
   refine r_seq (r_region' ?_)
   refine l_q (q_assign (v := .int _ _) rfl rfl) ?_
   refine l_nil ?_
   refine r_ret_ (vs := [.int _ _]) rfl Try.func98 rfl (.nil _) ⟨rfl, trivial⟩ ?_
   exact ⟨vint_eq (idxI_none (fun i hi => hno i (by omega))).symm, Ext.of_below hB⟩
theorem containsFunc_ints_ret (a : Option Addr) (n c : Nat) (cs : List Value) (g : FuncId) (fst cap : List Value) (p : Nat → Bool) (w : World) (hrow : Row w a n c 1 cs) (hp : PredI Try.prog w g fst cap cs p) (hn : n ≤ 9223372036854775806) : Ret Try.prog 85 [.slice a n c, .func (.func g) ⟨fst⟩ ⟨cap⟩] w (fun v w' => v = .bool ((List.range n).any p) ∧ Ext w w') := by
 have hB := Below.refl w.heap.size w
 have hsz : w.heap.size ≤ w.heap.size := Nat.le_refl _
 refine ret_of_runs (args := [_, _]) Try.func85 rfl (Nat.le_of_ble_eq_true rfl) (by kernel_rfl) ?_
 refine r_seq (r_region' ?_)
 refine l_q (q_assign (v := .bool _) rfl rfl) ?_
 refine l_nil (r_seq (r_region' ?_))
 refine l_q (q_move (v := .slice _ _ _) rfl rfl) ?_
 refine l_q (q_move (v := .func _ _ _) rfl rfl) ?_
 refine l_o (o_call Try.call98 rfl (indexFunc_ints_ret _ _ _ _ _ _ _ _ _ (hrow.below hB) (hp.ext (Ext.of_below hB)) hn) rfl ?_)
 rintro _ w1 ⟨rfl, hE1⟩
 replace hB := below_ext hB hE1 hsz
 replace hsz := Nat.le_trans hsz hE1.size
 refine l_q (q_geq rfl rfl rfl) ?_
 refine l_q (q_assign (v := .bool _) rfl rfl) ?_
 refine l_nil ?_
 refine r_ret_ (vs := [.bool _]) rfl Try.func85 rfl (.nil _) ⟨rfl, trivial⟩ ?_
 exact ⟨vbool_eq (idxI_nonneg p n), Ext.of_below hB⟩
end Go.Proofs.Ytgdanglidienmaa
