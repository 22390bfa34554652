/- Contracts. -/
import Derived.Test.YtbikicakdkbcgaaProg
import Derived.Test.YtbikicakdkbcgaaGvA
import Derived.Test.YtbikicakdkbcgaaFl
set_option linter.unusedVariables false
set_option linter.unusedSimpArgs false
namespace Go.Proofs.Ytbikicakdkbcgaa
open Go Go.RowKit Go.Gv Go.Fl

theorem indexFunc_int_ret (a : Option Addr) (n c : Nat) (cs : List Value) (g : FuncId) (fst cap : List Value) (p : Nat → Bool) (w : World) (hrow : Row w a n c 1 cs) (hp : PredI Try.prog w g fst cap cs p) (hn : n ≤ 9223372036854775806) : Ret Try.prog 76 [.slice a n c, .func (.func g) ⟨fst⟩ ⟨cap⟩] w (fun v w' => v = vint (idxI p n) ∧ Ext w w') := by
 have hl : cs.length = n := by have := hrow.1; omega
 have hB := Below.refl w.heap.size w
 have hsz : w.heap.size ≤ w.heap.size := Nat.le_refl _
 refine ret_of_runs (args := [_, _]) Try.func76 rfl (Nat.le_of_ble_eq_true rfl) (by kernel_rfl) (r_seq (r_region' (l_q (qai rfl rfl) (l_nil (r_seq (r_seq (r_region' (l_q (qms rfl rfl) (l_q (q_len rfl Try.underlying26 rfl rfl) (l_q (qmi rfl rfl) (l_nil (r_block (r_rounds (α := Nat) (fun k e wl => Knows e [(0, .slice a n c), (1, .func (.func g) ⟨fst⟩ ⟨cap⟩), (7, vint (n : Int)), (8, vint (k : Int))] ∧ (k ≤ n) ∧ (∀ i, i < k → p i = false) ∧ (w.heap.size ≤ wl.heap.size) ∧ (Below w.heap.size w wl)) (fun k => n - k) 0 ?_ ?_)))))))))))))
 ·
  exact ⟨⟨rfl, rfl, rfl, rfl, trivial⟩, (Nat.zero_le _), (fun i hi => absurd hi (Nat.not_lt_zero _)), hsz, hB⟩
 ·
  rintro k el1 wl1 ⟨hkn, hk, hno, hsz, hB⟩ ih1
  obtain ⟨e1, rfl⟩ := knows_env hkn
  refine r_seq (r_region' (l_q (q_lss rfl rfl rfl) (l_nil (r_seq (r_cond rfl (fun hc2 => ?_) (fun hc2 => ?_))))))
  ·
   replace hc2 := dt hc2
   refine r_skip (r_seq (r_block (r_seq (r_region' (l_q (qmi rfl rfl) (l_q (qai rfl rfl) (l_nil (r_seq (r_region' (l_q (q_move (v := .func _ _ _) rfl rfl) (l_q (qms rfl rfl) (l_q (qmi rfl rfl) ?_))))))))))))
   obtain ⟨b3, o3, ha3, hh3⟩ := (hrow.below hB).at1r k ((cs).getD k undef) (getD_some (by omega))
   refine l_q (q_indexAddr1 Try.underlying26 Try.sizeOf3 rfl ha3 rfl (by omega) rfl) (l_q (q_load Try.isAgg3 rfl (hh3) rfl) (l_o (o_callv (f := g) (fst := fst) (cap := cap) rfl hp.1 rfl (hp.2 _ (Ext.of_below hB) k _ (getD_some (by omega))) rfl ?_)))
   rintro _ w4 ⟨rfl, hE4⟩
   replace hB := below_ext hB hE4 hsz
   replace hsz := Nat.le_trans hsz hE4.size
   refine l_nil (r_cond rfl (fun hc5 => ?_) (fun hc5 => ?_))
   ·
    refine r_seq (r_region' (l_q (qmi rfl rfl) (l_q (qai rfl rfl) (l_nil (r_forget [(4, .int _ _)] ⟨rfl, trivial⟩ (fun e6 => (r_ret_ (vs := [.int _ _]) rfl Try.func76 rfl (.nil _) ⟨rfl, trivial⟩ ?_)))))))
    exact ⟨vint_eq (idxI_found (by omega) (by assumption) hno).symm, Ext.of_below hB⟩
   ·
    refine r_skip (r_inBlock (r_region' (l_q (q_add rfl rfl (by omega) rfl) (l_q (qmi rfl rfl) (l_nil (r_forget [(0, .slice _ _ _), (1, .func _ _ _), (7, .int _ _), (8, .int _ _)] ⟨rfl, rfl, rfl, rfl, trivial⟩ (fun e7 => ?_)))))))
    exact ih1 (k + 1) _ _ ⟨⟨rfl, rfl, rfl, by first | rfl | exact vint_eq (by omega), trivial⟩, (by omega), (fun i hi => by rcases Nat.lt_succ_iff_lt_or_eq.1 hi with h | h; exact hno i h; subst h; assumption), hsz, hB⟩ (by first | omega | (dsimp only; omega))
  ·
   replace hc2 := dlt hc2
   refine r_exit rfl (r_seq (r_region' (l_q (qai rfl rfl) (l_nil (r_ret_ (vs := [.int _ _]) rfl Try.func76 rfl (.nil _) ⟨rfl, trivial⟩ ?_)))))
   exact ⟨vint_eq (idxI_none (fun i hi => hno i (by omega))).symm, Ext.of_below hB⟩
theorem containsFunc_int_ret (a : Option Addr) (n c : Nat) (cs : List Value) (g : FuncId) (fst cap : List Value) (p : Nat → Bool) (w : World) (hrow : Row w a n c 1 cs) (hp : PredI Try.prog w g fst cap cs p) (hn : n ≤ 9223372036854775806) : Ret Try.prog 60 [.slice a n c, .func (.func g) ⟨fst⟩ ⟨cap⟩] w (fun v w' => v = .bool ((List.range n).any p) ∧ Ext w w') := by
 have hB := Below.refl w.heap.size w
 have hsz : w.heap.size ≤ w.heap.size := Nat.le_refl _
 refine ret_of_runs (args := [_, _]) Try.func60 rfl (Nat.le_of_ble_eq_true rfl) (by kernel_rfl) (r_seq (r_region' (l_q (qab rfl rfl) (l_nil (r_seq (r_region' (l_q (qms rfl rfl) (l_q (q_move (v := .func _ _ _) rfl rfl) (l_o (o_call Try.call76 rfl (indexFunc_int_ret _ _ _ _ _ _ _ _ _ (hrow.below hB) (hp.ext (Ext.of_below hB)) hn) rfl ?_))))))))))
 rintro _ w1 ⟨rfl, hE1⟩
 replace hB := below_ext hB hE1 hsz
 replace hsz := Nat.le_trans hsz hE1.size
 refine l_q (q_geq rfl rfl rfl) (l_q (qab rfl rfl) (l_nil (r_ret_ (vs := [.bool _]) rfl Try.func60 rfl (.nil _) ⟨rfl, trivial⟩ ?_)))
 exact ⟨vbool_eq (idxI_nonneg p n), Ext.of_below hB⟩
theorem indexFunc_ints_ret (a : Option Addr) (n c : Nat) (cs : List Value) (g : FuncId) (fst cap : List Value) (p : Nat → Bool) (w : World) (hrow : Row w a n c 1 cs) (hp : PredI Try.prog w g fst cap cs p) (hn : n ≤ 9223372036854775806) : Ret Try.prog 78 [.slice a n c, .func (.func g) ⟨fst⟩ ⟨cap⟩] w (fun v w' => v = vint (idxI p n) ∧ Ext w w') := by
 have hl : cs.length = n := by have := hrow.1; omega
 have hB := Below.refl w.heap.size w
 have hsz : w.heap.size ≤ w.heap.size := Nat.le_refl _
 refine ret_of_runs (args := [_, _]) Try.func78 rfl (Nat.le_of_ble_eq_true rfl) (by kernel_rfl) (r_seq (r_region' (l_q (qai rfl rfl) (l_nil (r_seq (r_seq (r_region' (l_q (qms rfl rfl) (l_q (q_len rfl Try.underlying22 rfl rfl) (l_q (qmi rfl rfl) (l_nil (r_block (r_rounds (α := Nat) (fun k e wl => Knows e [(0, .slice a n c), (1, .func (.func g) ⟨fst⟩ ⟨cap⟩), (7, vint (n : Int)), (8, vint (k : Int))] ∧ (k ≤ n) ∧ (∀ i, i < k → p i = false) ∧ (w.heap.size ≤ wl.heap.size) ∧ (Below w.heap.size w wl)) (fun k => n - k) 0 ?_ ?_)))))))))))))
 ·
  exact ⟨⟨rfl, rfl, rfl, rfl, trivial⟩, (Nat.zero_le _), (fun i hi => absurd hi (Nat.not_lt_zero _)), hsz, hB⟩
 ·
  rintro k el1 wl1 ⟨hkn, hk, hno, hsz, hB⟩ ih1
  obtain ⟨e1, rfl⟩ := knows_env hkn
  refine r_seq (r_region' (l_q (q_lss rfl rfl rfl) (l_nil (r_seq (r_cond rfl (fun hc2 => ?_) (fun hc2 => ?_))))))
  ·
   replace hc2 := dt hc2
   refine r_skip (r_seq (r_block (r_seq (r_region' (l_q (qmi rfl rfl) (l_q (qai rfl rfl) (l_nil (r_seq (r_region' (l_q (q_move (v := .func _ _ _) rfl rfl) (l_q (qms rfl rfl) (l_q (qmi rfl rfl) ?_))))))))))))
   obtain ⟨b3, o3, ha3, hh3⟩ := (hrow.below hB).at1r k ((cs).getD k undef) (getD_some (by omega))
   refine l_q (q_indexAddr1 Try.underlying22 Try.sizeOf26 rfl ha3 rfl (by omega) rfl) (l_q (q_load Try.isAgg26 rfl (hh3) rfl) (l_o (o_callv (f := g) (fst := fst) (cap := cap) rfl hp.1 rfl (hp.2 _ (Ext.of_below hB) k _ (getD_some (by omega))) rfl ?_)))
   rintro _ w4 ⟨rfl, hE4⟩
   replace hB := below_ext hB hE4 hsz
   replace hsz := Nat.le_trans hsz hE4.size
   refine l_nil (r_cond rfl (fun hc5 => ?_) (fun hc5 => ?_))
   ·
    refine r_seq (r_region' (l_q (qmi rfl rfl) (l_q (qai rfl rfl) (l_nil (r_forget [(4, .int _ _)] ⟨rfl, trivial⟩ (fun e6 => (r_ret_ (vs := [.int _ _]) rfl Try.func78 rfl (.nil _) ⟨rfl, trivial⟩ ?_)))))))
    exact ⟨vint_eq (idxI_found (by omega) (by assumption) hno).symm, Ext.of_below hB⟩
   ·
    refine r_skip (r_inBlock (r_region' (l_q (q_add rfl rfl (by omega) rfl) (l_q (qmi rfl rfl) (l_nil (r_forget [(0, .slice _ _ _), (1, .func _ _ _), (7, .int _ _), (8, .int _ _)] ⟨rfl, rfl, rfl, rfl, trivial⟩ (fun e7 => ?_)))))))
    exact ih1 (k + 1) _ _ ⟨⟨rfl, rfl, rfl, by first | rfl | exact vint_eq (by omega), trivial⟩, (by omega), (fun i hi => by rcases Nat.lt_succ_iff_lt_or_eq.1 hi with h | h; exact hno i h; subst h; assumption), hsz, hB⟩ (by first | omega | (dsimp only; omega))
  ·
   replace hc2 := dlt hc2
   refine r_exit rfl (r_seq (r_region' (l_q (qai rfl rfl) (l_nil (r_ret_ (vs := [.int _ _]) rfl Try.func78 rfl (.nil _) ⟨rfl, trivial⟩ ?_)))))
   exact ⟨vint_eq (idxI_none (fun i hi => hno i (by omega))).symm, Ext.of_below hB⟩
theorem containsFunc_ints_ret (a : Option Addr) (n c : Nat) (cs : List Value) (g : FuncId) (fst cap : List Value) (p : Nat → Bool) (w : World) (hrow : Row w a n c 1 cs) (hp : PredI Try.prog w g fst cap cs p) (hn : n ≤ 9223372036854775806) : Ret Try.prog 64 [.slice a n c, .func (.func g) ⟨fst⟩ ⟨cap⟩] w (fun v w' => v = .bool ((List.range n).any p) ∧ Ext w w') := by
 have hB := Below.refl w.heap.size w
 have hsz : w.heap.size ≤ w.heap.size := Nat.le_refl _
 refine ret_of_runs (args := [_, _]) Try.func64 rfl (Nat.le_of_ble_eq_true rfl) (by kernel_rfl) (r_seq (r_region' (l_q (qab rfl rfl) (l_nil (r_seq (r_region' (l_q (qms rfl rfl) (l_q (q_move (v := .func _ _ _) rfl rfl) (l_o (o_call Try.call78 rfl (indexFunc_ints_ret _ _ _ _ _ _ _ _ _ (hrow.below hB) (hp.ext (Ext.of_below hB)) hn) rfl ?_))))))))))
 rintro _ w1 ⟨rfl, hE1⟩
 replace hB := below_ext hB hE1 hsz
 replace hsz := Nat.le_trans hsz hE1.size
 refine l_q (q_geq rfl rfl rfl) (l_q (qab rfl rfl) (l_nil (r_ret_ (vs := [.bool _]) rfl Try.func64 rfl (.nil _) ⟨rfl, trivial⟩ ?_)))
 exact ⟨vbool_eq (idxI_nonneg p n), Ext.of_below hB⟩
end Go.Proofs.Ytbikicakdkbcgaa
