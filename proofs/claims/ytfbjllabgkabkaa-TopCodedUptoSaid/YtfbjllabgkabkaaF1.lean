/- Contracts. -/
import Derived.Test.YtfbjllabgkabkaaProg
import Derived.Test.YtfbjllabgkabkaaGvA
import Derived.Test.YtfbjllabgkabkaaFl
set_option linter.unusedVariables false
set_option linter.unusedSimpArgs false
namespace Go.Proofs.Ytfbjllabgkabkaa
open Go Go.RowKit Go.Gv Go.Fl

theorem ibs (s : List UInt8) (b : UInt8) (w : World) : (callFunc 83 (List.toArray [vstr s, .int .u8 b.toNat])).run Try.prog w = .ok (.value (vint (Lib.indexByte s b))) w := by
  have h := Lib.run_indexByteString (P := Try.prog) ⟨⟨s⟩⟩ b.toNat w
  rw [run_callFunc_extern Try.func83 (by kernel_rfl) (by kernel_rfl) (by kernel_rfl) (e := Extern.BytealgIndexByte.indexByte) (by kernel_rfl)]
  rw [show (List.toArray [vstr s, .int .u8 b.toNat]) = #[.string ⟨⟨s⟩⟩, .int .u8 b.toNat] from rfl, h]
  simp
theorem ib_nonneg (s : List UInt8) (b : UInt8) : decide (0 ≤ Lib.indexByte s b) = s.contains b := by
  have h : ∀ s : List UInt8, -1 ≤ Lib.indexByte s b ∧ (0 ≤ Lib.indexByte s b ↔ b ∈ s) := by
    intro s
    induction s with
    | nil => simp [Lib.indexByte]
    | cons x l ih =>
      unfold Lib.indexByte
      by_cases hx : x = b
      · subst hx; simp
      · have hx' : (x == b) = false := by simpa using hx
        have hb : ¬ b = x := fun h => hx h.symm
        rw [hx']
        simp only [Bool.false_eq_true, if_false, List.mem_cons, hb, false_or, beq_iff_eq]
        by_cases h1 : Lib.indexByte l b = -1
        · simp [h1]; intro hm; have := ih.2.2 hm; omega
        · rw [if_neg h1]; constructor
          · omega
          · rw [← ih.2]; omega
  rw [Bool.eq_iff_iff, decide_eq_true_eq, (h s).2, List.contains_iff_mem]

theorem fld93_0 (w : World) (b o : Nat) : (Instr.fieldAt 93 (ptr b o) 0).run Try.prog w = .ok (ptr b (o + 0)) w := by
  simp [Instr.fieldAt, run_underlying Try.underlying93, fieldPlace, Instr.sureAddr, Try.sizeOf9, Addr.add_lit]
theorem within_ret (n lo hi : Int) (w : World) : Ret Try.prog 43 [vint n, vint lo, vint hi] w (fun v w' => v = .bool (decide (lo ≤ n) && decide (n ≤ hi)) ∧ w = w') := by
  have hB := Below.refl w.heap.size w
  have hsz : w.heap.size ≤ w.heap.size := Nat.le_refl _
  refine ret_of_runs (args := [_, _, _]) Try.func43 rfl (Nat.le_of_ble_eq_true rfl) (by kernel_rfl) ?_
  refine r_seq ?_
  refine r_region' ?_
  refine l_q (q_assign (v := .bool _) rfl rfl) ?_
  refine l_nil ?_
  refine r_forget [(0, .int _ _), (1, .int _ _), (2, .int _ _)] ⟨rfl, rfl, rfl, trivial⟩ (fun e1 => ?_)
  refine r_seq ?_
  refine r_region' ?_
  refine l_q (q_move (v := .int _ _) rfl rfl) ?_
  refine l_q (q_move (v := .int _ _) rfl rfl) ?_
  refine l_q (q_leq rfl rfl rfl) ?_
  refine l_q (q_move (v := .bool _) rfl rfl) ?_
  refine l_part 10 rfl (fun hc2 => ?_) (fun hc2 => ?_)
  · skip
    try simp only [decide_eq_true_eq, decide_eq_false_iff_not, Bool.not_eq_true', Bool.not_eq_false', Bool.not_not, Bool.not_true, Bool.not_false, Bool.not_eq_true, Bool.not_eq_false, Int.not_lt, Int.not_le, Bool.and_eq_true, Bool.or_eq_true, Bool.and_eq_false_iff, Bool.or_eq_false_iff] at hc2
    refine l_q (q_move (v := .int _ _) rfl rfl) ?_
    refine l_q (q_move (v := .int _ _) rfl rfl) ?_
    refine l_q (q_leq rfl rfl rfl) ?_
    refine l_q (q_pick_t (v := .bool _) rfl rfl rfl) ?_
    refine l_q (q_assign (v := .bool _) rfl rfl) ?_
    refine l_nil ?_
    refine r_forget [(6, .bool _)] ⟨rfl, trivial⟩ (fun e3 => ?_)
    refine r_ret_ (vs := [.bool _]) rfl Try.func43 rfl (.nil _) ⟨rfl, trivial⟩ ?_
    exact ⟨vbool_eq (by simp_all <;> omega), rfl⟩
  · skip
    try simp only [decide_eq_true_eq, decide_eq_false_iff_not, Bool.not_eq_true', Bool.not_eq_false', Bool.not_not, Bool.not_true, Bool.not_false, Bool.not_eq_true, Bool.not_eq_false, Int.not_lt, Int.not_le, Bool.and_eq_true, Bool.or_eq_true, Bool.and_eq_false_iff, Bool.or_eq_false_iff] at hc2
    refine l_q (q_skip rfl) ?_
    refine l_q (q_skip rfl) ?_
    refine l_q (q_skip rfl) ?_
    refine l_q (q_pick_f (v := .bool _) rfl rfl rfl) ?_
    refine l_q (q_assign (v := .bool _) rfl rfl) ?_
    refine l_nil ?_
    refine r_forget [(6, .bool _)] ⟨rfl, trivial⟩ (fun e4 => ?_)
    refine r_ret_ (vs := [.bool _]) rfl Try.func43 rfl (.nil _) ⟨rfl, trivial⟩ ?_
    exact ⟨vbool_eq (by simp_all <;> omega), rfl⟩
theorem indexByte0_ret (s : List UInt8) (b : UInt8) (w : World) : Ret Try.prog 80 [vstr s, .int .u8 b.toNat] w (fun v w' => v = vint (Lib.indexByte s b) ∧ w = w') := by
  have hB := Below.refl w.heap.size w
  have hsz : w.heap.size ≤ w.heap.size := Nat.le_refl _
  refine ret_of_runs (args := [_, _]) Try.func80 rfl (Nat.le_of_ble_eq_true rfl) (by kernel_rfl) ?_
  refine r_seq ?_
  refine r_region' ?_
  refine l_q (q_assign (v := .int _ _) rfl rfl) ?_
  refine l_nil ?_
  refine r_forget [(0, .string _), (1, .int _ _)] ⟨rfl, rfl, trivial⟩ (fun e1 => ?_)
  refine r_seq ?_
  refine r_region' ?_
  refine l_q (q_move (v := .string _) rfl rfl) ?_
  refine l_q (q_move (v := .int _ _) rfl rfl) ?_
  refine l_q (q_extern (ibs _ _) rfl rfl) ?_
  refine l_q (q_assign (v := .int _ _) rfl rfl) ?_
  refine l_nil ?_
  refine r_forget [(4, .int _ _)] ⟨rfl, trivial⟩ (fun e2 => ?_)
  refine r_ret_ (vs := [.int _ _]) rfl Try.func80 rfl (.nil _) ⟨rfl, trivial⟩ ?_
  exact ⟨rfl, rfl⟩
theorem indexByte_ret (s : List UInt8) (b : UInt8) (w : World) : Ret Try.prog 72 [vstr s, .int .u8 b.toNat] w (fun v w' => v = vint (Lib.indexByte s b) ∧ w = w') := by
  have hB := Below.refl w.heap.size w
  have hsz : w.heap.size ≤ w.heap.size := Nat.le_refl _
  refine ret_of_runs (args := [_, _]) Try.func72 rfl (Nat.le_of_ble_eq_true rfl) (by kernel_rfl) ?_
  refine r_seq ?_
  refine r_region' ?_
  refine l_q (q_assign (v := .int _ _) rfl rfl) ?_
  refine l_nil ?_
  refine r_forget [(0, .string _), (1, .int _ _)] ⟨rfl, rfl, trivial⟩ (fun e1 => ?_)
  refine r_seq ?_
  refine r_region' ?_
  refine l_q (q_move (v := .string _) rfl rfl) ?_
  refine l_q (q_move (v := .int _ _) rfl rfl) ?_
  refine l_o (o_call Try.call80 rfl (indexByte0_ret _ _ _) rfl ?_)
  rintro _ w2 ⟨rfl, rfl⟩
  refine l_q (q_assign (v := .int _ _) rfl rfl) ?_
  refine l_nil ?_
  refine r_forget [(4, .int _ _)] ⟨rfl, trivial⟩ (fun e3 => ?_)
  refine r_ret_ (vs := [.int _ _]) rfl Try.func72 rfl (.nil _) ⟨rfl, trivial⟩ ?_
  exact ⟨rfl, rfl⟩
theorem has_ret (s : List UInt8) (m : Int) (b : UInt8) (w : World) : Ret Try.prog 60 [.agg ⟨[vstr s, vint m]⟩, .int .u8 b.toNat] w (fun v w' => v = .bool (s.contains b) ∧ Ext w w') := by
  have hB := Below.refl w.heap.size w
  have hsz : w.heap.size ≤ w.heap.size := Nat.le_refl _
  refine ret_of_runs (args := [_, _]) Try.func60 rfl (Nat.le_of_ble_eq_true rfl) (by kernel_rfl) ?_
  refine r_seq ?_
  refine r_region' ?_
  refine l_o (o_box rfl rfl rfl ?_)
  intro b1 w1 hzl1 hzr1 _ hb1 hE1
  have hbs_b1 : w.heap.size ≤ b1 := Nat.le_trans hsz hzl1
  replace hB := below_ext hB hE1 hsz
  replace hsz := Nat.le_trans hsz hE1.size
  refine l_q (q_assign (v := .bool _) rfl rfl) ?_
  refine l_nil ?_
  refine r_forget [(1, .int _ _), (2, .pointer _)] ⟨rfl, rfl, trivial⟩ (fun e2 => ?_)
  refine r_seq ?_
  refine r_region' ?_
  refine l_q (q_fieldAddr (o' := 0) rfl fld93_0 rfl) ?_
  refine l_q (q_load Try.isAgg9 rfl ((hb1.has (o := 0) rfl)) rfl) ?_
  refine l_q (q_move (v := .int _ _) rfl rfl) ?_
  refine l_o (o_call Try.call72 rfl (indexByte_ret _ _ _) rfl ?_)
  rintro _ w3 ⟨rfl, rfl⟩
  refine l_q (q_geq rfl rfl rfl) ?_
  refine l_q (q_assign (v := .bool _) rfl rfl) ?_
  refine l_nil ?_
  refine r_forget [(4, .bool _)] ⟨rfl, trivial⟩ (fun e4 => ?_)
  refine r_ret_ (vs := [.bool _]) rfl Try.func60 rfl (.nil _) ⟨rfl, trivial⟩ ?_
  exact ⟨vbool_eq (ib_nonneg _ _), Ext.of_below hB⟩
theorem indexFunc_byte_ret (a : Option Addr) (n c : Nat) (cs : List Value) (g : FuncId) (fst cap : List Value) (p : Nat → Bool) (w : World) (hrow : Row w a n c 1 cs) (hp : PredI Try.prog w g fst cap cs p) (hn : n ≤ 9223372036854775806) : Ret Try.prog 81 [.slice a n c, .func (.func g) ⟨fst⟩ ⟨cap⟩] w (fun v w' => v = vint (idxI p n) ∧ Ext w w') := by
  have hl : cs.length = n := by have := hrow.1; omega
  have hB := Below.refl w.heap.size w
  have hsz : w.heap.size ≤ w.heap.size := Nat.le_refl _
  refine ret_of_runs (args := [_, _]) Try.func81 rfl (Nat.le_of_ble_eq_true rfl) (by kernel_rfl) ?_
  refine r_seq ?_
  refine r_region' ?_
  refine l_q (q_assign (v := .int _ _) rfl rfl) ?_
  refine l_nil ?_
  refine r_forget [(0, .slice _ _ _), (1, .func _ _ _)] ⟨rfl, rfl, trivial⟩ (fun e1 => ?_)
  refine r_seq ?_
  refine r_seq ?_
  refine r_region' ?_
  refine l_q (q_move (v := .slice _ _ _) rfl rfl) ?_
  refine l_q (q_len rfl Try.underlying98 rfl rfl) ?_
  refine l_q (q_move (v := .int _ _) rfl rfl) ?_
  refine l_nil ?_
  refine r_forget [(0, .slice _ _ _), (1, .func _ _ _), (7, .int _ _), (8, .int _ _)] ⟨rfl, rfl, rfl, rfl, trivial⟩ (fun e2 => ?_)
  refine r_block ?_
  refine r_rounds (α := Nat) (fun k e wl => Knows e [(0, .slice a n c), (1, .func (.func g) ⟨fst⟩ ⟨cap⟩), (7, vint (n : Int)), (8, vint (k : Int))] ∧ (k ≤ n) ∧ (∀ i, i < k → p i = false) ∧ (w.heap.size ≤ wl.heap.size) ∧ (Below w.heap.size w wl)) (fun k => n - k) 0 ?_ ?_
  · skip
    exact ⟨⟨rfl, rfl, rfl, rfl, trivial⟩, (Nat.zero_le _), (fun i hi => absurd hi (Nat.not_lt_zero _)), hsz, hB⟩
  · skip
    rintro k el3 wl3 ⟨hkn, hk, hno, hsz, hB⟩ ih3
    obtain ⟨e3, rfl⟩ := knows_env hkn
    refine r_seq ?_
    refine r_region' ?_
    refine l_q (q_lss rfl rfl rfl) ?_
    refine l_nil ?_
    refine r_seq ?_
    refine r_cond rfl (fun hc4 => ?_) (fun hc4 => ?_)
    · skip
      try simp only [decide_eq_true_eq, decide_eq_false_iff_not, Bool.not_eq_true', Bool.not_eq_false', Bool.not_not, Bool.not_true, Bool.not_false, Bool.not_eq_true, Bool.not_eq_false, Int.not_lt, Int.not_le, Bool.and_eq_true, Bool.or_eq_true, Bool.and_eq_false_iff, Bool.or_eq_false_iff] at hc4
      refine r_skip ?_
      refine r_seq ?_
      refine r_block ?_
      refine r_seq ?_
      refine r_region' ?_
      refine l_q (q_move (v := .int _ _) rfl rfl) ?_
      refine l_q (q_assign (v := .int _ _) rfl rfl) ?_
      refine l_nil ?_
      refine r_forget [(0, .slice _ _ _), (1, .func _ _ _), (5, .int _ _), (7, .int _ _), (8, .int _ _)] ⟨rfl, rfl, rfl, rfl, rfl, trivial⟩ (fun e5 => ?_)
      refine r_seq ?_
      refine r_region' ?_
      refine l_q (q_move (v := .func _ _ _) rfl rfl) ?_
      refine l_q (q_move (v := .slice _ _ _) rfl rfl) ?_
      refine l_q (q_move (v := .int _ _) rfl rfl) ?_
      obtain ⟨b6, o6, ha6, hh6⟩ := (hrow.below hB).at1r k ((cs).getD k undef) (getD_some (by omega))
      refine l_q (q_indexAddr1 Try.underlying98 Try.sizeOf5 rfl ha6 rfl (by omega) rfl) ?_
      refine l_q (q_load Try.isAgg5 rfl (hh6) rfl) ?_
      refine l_o (o_callv (f := g) (fst := fst) (cap := cap) rfl hp.1 rfl (hp.2 _ (Ext.of_below hB) k _ (getD_some (by omega))) rfl ?_)
      rintro _ w7 ⟨rfl, hE7⟩
      replace hB := below_ext hB hE7 hsz
      replace hsz := Nat.le_trans hsz hE7.size
      refine l_nil ?_
      refine r_forget [(0, .slice _ _ _), (1, .func _ _ _), (5, .int _ _), (7, .int _ _), (8, .int _ _), (16, .bool _)] ⟨rfl, rfl, rfl, rfl, rfl, rfl, trivial⟩ (fun e8 => ?_)
      refine r_cond rfl (fun hc9 => ?_) (fun hc9 => ?_)
      · skip
        try simp only [decide_eq_true_eq, decide_eq_false_iff_not, Bool.not_eq_true', Bool.not_eq_false', Bool.not_not, Bool.not_true, Bool.not_false, Bool.not_eq_true, Bool.not_eq_false, Int.not_lt, Int.not_le, Bool.and_eq_true, Bool.or_eq_true, Bool.and_eq_false_iff, Bool.or_eq_false_iff] at hc9
        refine r_seq ?_
        refine r_region' ?_
        refine l_q (q_move (v := .int _ _) rfl rfl) ?_
        refine l_q (q_assign (v := .int _ _) rfl rfl) ?_
        refine l_nil ?_
        refine r_forget [(4, .int _ _)] ⟨rfl, trivial⟩ (fun e10 => ?_)
        refine r_ret_ (vs := [.int _ _]) rfl Try.func81 rfl (.nil _) ⟨rfl, trivial⟩ ?_
        exact ⟨vint_eq (idxI_found (by omega) (by assumption) hno).symm, Ext.of_below hB⟩
      · skip
        try simp only [decide_eq_true_eq, decide_eq_false_iff_not, Bool.not_eq_true', Bool.not_eq_false', Bool.not_not, Bool.not_true, Bool.not_false, Bool.not_eq_true, Bool.not_eq_false, Int.not_lt, Int.not_le, Bool.and_eq_true, Bool.or_eq_true, Bool.and_eq_false_iff, Bool.or_eq_false_iff] at hc9
        refine r_skip ?_
        refine r_inBlock ?_
        refine r_region' ?_
        refine l_q (q_add rfl rfl (by omega) rfl) ?_
        refine l_q (q_move (v := .int _ _) rfl rfl) ?_
        refine l_nil ?_
        refine r_forget [(0, .slice _ _ _), (1, .func _ _ _), (7, .int _ _), (8, .int _ _)] ⟨rfl, rfl, rfl, rfl, trivial⟩ (fun e11 => ?_)
        exact ih3 (k + 1) _ _ ⟨⟨rfl, rfl, rfl, by first | rfl | exact vint_eq (by omega), trivial⟩, (by omega), (fun i hi => by rcases Nat.lt_succ_iff_lt_or_eq.1 hi with h | h; exact hno i h; subst h; assumption), hsz, hB⟩ (by first | omega | (dsimp only; omega))
    · skip
      try simp only [decide_eq_true_eq, decide_eq_false_iff_not, Bool.not_eq_true', Bool.not_eq_false', Bool.not_not, Bool.not_true, Bool.not_false, Bool.not_eq_true, Bool.not_eq_false, Int.not_lt, Int.not_le, Bool.and_eq_true, Bool.or_eq_true, Bool.and_eq_false_iff, Bool.or_eq_false_iff] at hc4
      refine r_exit rfl ?_
      refine r_seq ?_
      refine r_region' ?_
      refine l_q (q_assign (v := .int _ _) rfl rfl) ?_
      refine l_nil ?_
      refine r_forget [(4, .int _ _)] ⟨rfl, trivial⟩ (fun e12 => ?_)
      refine r_ret_ (vs := [.int _ _]) rfl Try.func81 rfl (.nil _) ⟨rfl, trivial⟩ ?_
      exact ⟨vint_eq (idxI_none (fun i hi => hno i (by omega))).symm, Ext.of_below hB⟩
theorem containsFunc_byte_ret (a : Option Addr) (n c : Nat) (cs : List Value) (g : FuncId) (fst cap : List Value) (p : Nat → Bool) (w : World) (hrow : Row w a n c 1 cs) (hp : PredI Try.prog w g fst cap cs p) (hn : n ≤ 9223372036854775806) : Ret Try.prog 73 [.slice a n c, .func (.func g) ⟨fst⟩ ⟨cap⟩] w (fun v w' => v = .bool ((List.range n).any p) ∧ Ext w w') := by
  have hB := Below.refl w.heap.size w
  have hsz : w.heap.size ≤ w.heap.size := Nat.le_refl _
  refine ret_of_runs (args := [_, _]) Try.func73 rfl (Nat.le_of_ble_eq_true rfl) (by kernel_rfl) ?_
  refine r_seq ?_
  refine r_region' ?_
  refine l_q (q_assign (v := .bool _) rfl rfl) ?_
  refine l_nil ?_
  refine r_forget [(0, .slice _ _ _), (1, .func _ _ _)] ⟨rfl, rfl, trivial⟩ (fun e1 => ?_)
  refine r_seq ?_
  refine r_region' ?_
  refine l_q (q_move (v := .slice _ _ _) rfl rfl) ?_
  refine l_q (q_move (v := .func _ _ _) rfl rfl) ?_
  refine l_o (o_call Try.call81 rfl (indexFunc_byte_ret _ _ _ _ _ _ _ _ _ (hrow.below hB) (hp.ext (Ext.of_below hB)) hn) rfl ?_)
  rintro _ w2 ⟨rfl, hE2⟩
  replace hB := below_ext hB hE2 hsz
  replace hsz := Nat.le_trans hsz hE2.size
  refine l_q (q_geq rfl rfl rfl) ?_
  refine l_q (q_assign (v := .bool _) rfl rfl) ?_
  refine l_nil ?_
  refine r_forget [(4, .bool _)] ⟨rfl, trivial⟩ (fun e3 => ?_)
  refine r_ret_ (vs := [.bool _]) rfl Try.func73 rfl (.nil _) ⟨rfl, trivial⟩ ?_
  exact ⟨vbool_eq (idxI_nonneg p n), Ext.of_below hB⟩
theorem indexFunc_string_ret (a : Option Addr) (n c : Nat) (cs : List Value) (g : FuncId) (fst cap : List Value) (p : Nat → Bool) (w : World) (hrow : Row w a n c 1 cs) (hp : PredI Try.prog w g fst cap cs p) (hn : n ≤ 9223372036854775806) : Ret Try.prog 79 [.slice a n c, .func (.func g) ⟨fst⟩ ⟨cap⟩] w (fun v w' => v = vint (idxI p n) ∧ Ext w w') := by
  have hl : cs.length = n := by have := hrow.1; omega
  have hB := Below.refl w.heap.size w
  have hsz : w.heap.size ≤ w.heap.size := Nat.le_refl _
  refine ret_of_runs (args := [_, _]) Try.func79 rfl (Nat.le_of_ble_eq_true rfl) (by kernel_rfl) ?_
  refine r_seq ?_
  refine r_region' ?_
  refine l_q (q_assign (v := .int _ _) rfl rfl) ?_
  refine l_nil ?_
  refine r_forget [(0, .slice _ _ _), (1, .func _ _ _)] ⟨rfl, rfl, trivial⟩ (fun e1 => ?_)
  refine r_seq ?_
  refine r_seq ?_
  refine r_region' ?_
  refine l_q (q_move (v := .slice _ _ _) rfl rfl) ?_
  refine l_q (q_len rfl Try.underlying22 rfl rfl) ?_
  refine l_q (q_move (v := .int _ _) rfl rfl) ?_
  refine l_nil ?_
  refine r_forget [(0, .slice _ _ _), (1, .func _ _ _), (7, .int _ _), (8, .int _ _)] ⟨rfl, rfl, rfl, rfl, trivial⟩ (fun e2 => ?_)
  refine r_block ?_
  refine r_rounds (α := Nat) (fun k e wl => Knows e [(0, .slice a n c), (1, .func (.func g) ⟨fst⟩ ⟨cap⟩), (7, vint (n : Int)), (8, vint (k : Int))] ∧ (k ≤ n) ∧ (∀ i, i < k → p i = false) ∧ (w.heap.size ≤ wl.heap.size) ∧ (Below w.heap.size w wl)) (fun k => n - k) 0 ?_ ?_
  · skip
    exact ⟨⟨rfl, rfl, rfl, rfl, trivial⟩, (Nat.zero_le _), (fun i hi => absurd hi (Nat.not_lt_zero _)), hsz, hB⟩
  · skip
    rintro k el3 wl3 ⟨hkn, hk, hno, hsz, hB⟩ ih3
    obtain ⟨e3, rfl⟩ := knows_env hkn
    refine r_seq ?_
    refine r_region' ?_
    refine l_q (q_lss rfl rfl rfl) ?_
    refine l_nil ?_
    refine r_seq ?_
    refine r_cond rfl (fun hc4 => ?_) (fun hc4 => ?_)
    · skip
      try simp only [decide_eq_true_eq, decide_eq_false_iff_not, Bool.not_eq_true', Bool.not_eq_false', Bool.not_not, Bool.not_true, Bool.not_false, Bool.not_eq_true, Bool.not_eq_false, Int.not_lt, Int.not_le, Bool.and_eq_true, Bool.or_eq_true, Bool.and_eq_false_iff, Bool.or_eq_false_iff] at hc4
      refine r_skip ?_
      refine r_seq ?_
      refine r_block ?_
      refine r_seq ?_
      refine r_region' ?_
      refine l_q (q_move (v := .int _ _) rfl rfl) ?_
      refine l_q (q_assign (v := .int _ _) rfl rfl) ?_
      refine l_nil ?_
      refine r_forget [(0, .slice _ _ _), (1, .func _ _ _), (5, .int _ _), (7, .int _ _), (8, .int _ _)] ⟨rfl, rfl, rfl, rfl, rfl, trivial⟩ (fun e5 => ?_)
      refine r_seq ?_
      refine r_region' ?_
      refine l_q (q_move (v := .func _ _ _) rfl rfl) ?_
      refine l_q (q_move (v := .slice _ _ _) rfl rfl) ?_
      refine l_q (q_move (v := .int _ _) rfl rfl) ?_
      obtain ⟨b6, o6, ha6, hh6⟩ := (hrow.below hB).at1r k ((cs).getD k undef) (getD_some (by omega))
      refine l_q (q_indexAddr1 Try.underlying22 Try.sizeOf9 rfl ha6 rfl (by omega) rfl) ?_
      refine l_q (q_load Try.isAgg9 rfl (hh6) rfl) ?_
      refine l_o (o_callv (f := g) (fst := fst) (cap := cap) rfl hp.1 rfl (hp.2 _ (Ext.of_below hB) k _ (getD_some (by omega))) rfl ?_)
      rintro _ w7 ⟨rfl, hE7⟩
      replace hB := below_ext hB hE7 hsz
      replace hsz := Nat.le_trans hsz hE7.size
      refine l_nil ?_
      refine r_forget [(0, .slice _ _ _), (1, .func _ _ _), (5, .int _ _), (7, .int _ _), (8, .int _ _), (16, .bool _)] ⟨rfl, rfl, rfl, rfl, rfl, rfl, trivial⟩ (fun e8 => ?_)
      refine r_cond rfl (fun hc9 => ?_) (fun hc9 => ?_)
      · skip
        try simp only [decide_eq_true_eq, decide_eq_false_iff_not, Bool.not_eq_true', Bool.not_eq_false', Bool.not_not, Bool.not_true, Bool.not_false, Bool.not_eq_true, Bool.not_eq_false, Int.not_lt, Int.not_le, Bool.and_eq_true, Bool.or_eq_true, Bool.and_eq_false_iff, Bool.or_eq_false_iff] at hc9
        refine r_seq ?_
        refine r_region' ?_
        refine l_q (q_move (v := .int _ _) rfl rfl) ?_
        refine l_q (q_assign (v := .int _ _) rfl rfl) ?_
        refine l_nil ?_
        refine r_forget [(4, .int _ _)] ⟨rfl, trivial⟩ (fun e10 => ?_)
        refine r_ret_ (vs := [.int _ _]) rfl Try.func79 rfl (.nil _) ⟨rfl, trivial⟩ ?_
        exact ⟨vint_eq (idxI_found (by omega) (by assumption) hno).symm, Ext.of_below hB⟩
      · skip
        try simp only [decide_eq_true_eq, decide_eq_false_iff_not, Bool.not_eq_true', Bool.not_eq_false', Bool.not_not, Bool.not_true, Bool.not_false, Bool.not_eq_true, Bool.not_eq_false, Int.not_lt, Int.not_le, Bool.and_eq_true, Bool.or_eq_true, Bool.and_eq_false_iff, Bool.or_eq_false_iff] at hc9
        refine r_skip ?_
        refine r_inBlock ?_
        refine r_region' ?_
        refine l_q (q_add rfl rfl (by omega) rfl) ?_
        refine l_q (q_move (v := .int _ _) rfl rfl) ?_
        refine l_nil ?_
        refine r_forget [(0, .slice _ _ _), (1, .func _ _ _), (7, .int _ _), (8, .int _ _)] ⟨rfl, rfl, rfl, rfl, trivial⟩ (fun e11 => ?_)
        exact ih3 (k + 1) _ _ ⟨⟨rfl, rfl, rfl, by first | rfl | exact vint_eq (by omega), trivial⟩, (by omega), (fun i hi => by rcases Nat.lt_succ_iff_lt_or_eq.1 hi with h | h; exact hno i h; subst h; assumption), hsz, hB⟩ (by first | omega | (dsimp only; omega))
    · skip
      try simp only [decide_eq_true_eq, decide_eq_false_iff_not, Bool.not_eq_true', Bool.not_eq_false', Bool.not_not, Bool.not_true, Bool.not_false, Bool.not_eq_true, Bool.not_eq_false, Int.not_lt, Int.not_le, Bool.and_eq_true, Bool.or_eq_true, Bool.and_eq_false_iff, Bool.or_eq_false_iff] at hc4
      refine r_exit rfl ?_
      refine r_seq ?_
      refine r_region' ?_
      refine l_q (q_assign (v := .int _ _) rfl rfl) ?_
      refine l_nil ?_
      refine r_forget [(4, .int _ _)] ⟨rfl, trivial⟩ (fun e12 => ?_)
      refine r_ret_ (vs := [.int _ _]) rfl Try.func79 rfl (.nil _) ⟨rfl, trivial⟩ ?_
      exact ⟨vint_eq (idxI_none (fun i hi => hno i (by omega))).symm, Ext.of_below hB⟩
theorem containsFunc_string_ret (a : Option Addr) (n c : Nat) (cs : List Value) (g : FuncId) (fst cap : List Value) (p : Nat → Bool) (w : World) (hrow : Row w a n c 1 cs) (hp : PredI Try.prog w g fst cap cs p) (hn : n ≤ 9223372036854775806) : Ret Try.prog 69 [.slice a n c, .func (.func g) ⟨fst⟩ ⟨cap⟩] w (fun v w' => v = .bool ((List.range n).any p) ∧ Ext w w') := by
  have hB := Below.refl w.heap.size w
  have hsz : w.heap.size ≤ w.heap.size := Nat.le_refl _
  refine ret_of_runs (args := [_, _]) Try.func69 rfl (Nat.le_of_ble_eq_true rfl) (by kernel_rfl) ?_
  refine r_seq ?_
  refine r_region' ?_
  refine l_q (q_assign (v := .bool _) rfl rfl) ?_
  refine l_nil ?_
  refine r_forget [(0, .slice _ _ _), (1, .func _ _ _)] ⟨rfl, rfl, trivial⟩ (fun e1 => ?_)
  refine r_seq ?_
  refine r_region' ?_
  refine l_q (q_move (v := .slice _ _ _) rfl rfl) ?_
  refine l_q (q_move (v := .func _ _ _) rfl rfl) ?_
  refine l_o (o_call Try.call79 rfl (indexFunc_string_ret _ _ _ _ _ _ _ _ _ (hrow.below hB) (hp.ext (Ext.of_below hB)) hn) rfl ?_)
  rintro _ w2 ⟨rfl, hE2⟩
  replace hB := below_ext hB hE2 hsz
  replace hsz := Nat.le_trans hsz hE2.size
  refine l_q (q_geq rfl rfl rfl) ?_
  refine l_q (q_assign (v := .bool _) rfl rfl) ?_
  refine l_nil ?_
  refine r_forget [(4, .bool _)] ⟨rfl, trivial⟩ (fun e3 => ?_)
  refine r_ret_ (vs := [.bool _]) rfl Try.func69 rfl (.nil _) ⟨rfl, trivial⟩ ?_
  exact ⟨vbool_eq (idxI_nonneg p n), Ext.of_below hB⟩
theorem indexFunc_int_ret (a : Option Addr) (n c : Nat) (cs : List Value) (g : FuncId) (fst cap : List Value) (p : Nat → Bool) (w : World) (hrow : Row w a n c 1 cs) (hp : PredI Try.prog w g fst cap cs p) (hn : n ≤ 9223372036854775806) : Ret Try.prog 55 [.slice a n c, .func (.func g) ⟨fst⟩ ⟨cap⟩] w (fun v w' => v = vint (idxI p n) ∧ Ext w w') := by
  have hl : cs.length = n := by have := hrow.1; omega
  have hB := Below.refl w.heap.size w
  have hsz : w.heap.size ≤ w.heap.size := Nat.le_refl _
  refine ret_of_runs (args := [_, _]) Try.func55 rfl (Nat.le_of_ble_eq_true rfl) (by kernel_rfl) ?_
  refine r_seq ?_
  refine r_region' ?_
  refine l_q (q_assign (v := .int _ _) rfl rfl) ?_
  refine l_nil ?_
  refine r_forget [(0, .slice _ _ _), (1, .func _ _ _)] ⟨rfl, rfl, trivial⟩ (fun e1 => ?_)
  refine r_seq ?_
  refine r_seq ?_
  refine r_region' ?_
  refine l_q (q_move (v := .slice _ _ _) rfl rfl) ?_
  refine l_q (q_len rfl Try.underlying26 rfl rfl) ?_
  refine l_q (q_move (v := .int _ _) rfl rfl) ?_
  refine l_nil ?_
  refine r_forget [(0, .slice _ _ _), (1, .func _ _ _), (7, .int _ _), (8, .int _ _)] ⟨rfl, rfl, rfl, rfl, trivial⟩ (fun e2 => ?_)
  refine r_block ?_
  refine r_rounds (α := Nat) (fun k e wl => Knows e [(0, .slice a n c), (1, .func (.func g) ⟨fst⟩ ⟨cap⟩), (7, vint (n : Int)), (8, vint (k : Int))] ∧ (k ≤ n) ∧ (∀ i, i < k → p i = false) ∧ (w.heap.size ≤ wl.heap.size) ∧ (Below w.heap.size w wl)) (fun k => n - k) 0 ?_ ?_
  · skip
    exact ⟨⟨rfl, rfl, rfl, rfl, trivial⟩, (Nat.zero_le _), (fun i hi => absurd hi (Nat.not_lt_zero _)), hsz, hB⟩
  · skip
    rintro k el3 wl3 ⟨hkn, hk, hno, hsz, hB⟩ ih3
    obtain ⟨e3, rfl⟩ := knows_env hkn
    refine r_seq ?_
    refine r_region' ?_
    refine l_q (q_lss rfl rfl rfl) ?_
    refine l_nil ?_
    refine r_seq ?_
    refine r_cond rfl (fun hc4 => ?_) (fun hc4 => ?_)
    · skip
      try simp only [decide_eq_true_eq, decide_eq_false_iff_not, Bool.not_eq_true', Bool.not_eq_false', Bool.not_not, Bool.not_true, Bool.not_false, Bool.not_eq_true, Bool.not_eq_false, Int.not_lt, Int.not_le, Bool.and_eq_true, Bool.or_eq_true, Bool.and_eq_false_iff, Bool.or_eq_false_iff] at hc4
      refine r_skip ?_
      refine r_seq ?_
      refine r_block ?_
      refine r_seq ?_
      refine r_region' ?_
      refine l_q (q_move (v := .int _ _) rfl rfl) ?_
      refine l_q (q_assign (v := .int _ _) rfl rfl) ?_
      refine l_nil ?_
      refine r_forget [(0, .slice _ _ _), (1, .func _ _ _), (5, .int _ _), (7, .int _ _), (8, .int _ _)] ⟨rfl, rfl, rfl, rfl, rfl, trivial⟩ (fun e5 => ?_)
      refine r_seq ?_
      refine r_region' ?_
      refine l_q (q_move (v := .func _ _ _) rfl rfl) ?_
      refine l_q (q_move (v := .slice _ _ _) rfl rfl) ?_
      refine l_q (q_move (v := .int _ _) rfl rfl) ?_
      obtain ⟨b6, o6, ha6, hh6⟩ := (hrow.below hB).at1r k ((cs).getD k undef) (getD_some (by omega))
      refine l_q (q_indexAddr1 Try.underlying26 Try.sizeOf3 rfl ha6 rfl (by omega) rfl) ?_
      refine l_q (q_load Try.isAgg3 rfl (hh6) rfl) ?_
      refine l_o (o_callv (f := g) (fst := fst) (cap := cap) rfl hp.1 rfl (hp.2 _ (Ext.of_below hB) k _ (getD_some (by omega))) rfl ?_)
      rintro _ w7 ⟨rfl, hE7⟩
      replace hB := below_ext hB hE7 hsz
      replace hsz := Nat.le_trans hsz hE7.size
      refine l_nil ?_
      refine r_forget [(0, .slice _ _ _), (1, .func _ _ _), (5, .int _ _), (7, .int _ _), (8, .int _ _), (16, .bool _)] ⟨rfl, rfl, rfl, rfl, rfl, rfl, trivial⟩ (fun e8 => ?_)
      refine r_cond rfl (fun hc9 => ?_) (fun hc9 => ?_)
      · skip
        try simp only [decide_eq_true_eq, decide_eq_false_iff_not, Bool.not_eq_true', Bool.not_eq_false', Bool.not_not, Bool.not_true, Bool.not_false, Bool.not_eq_true, Bool.not_eq_false, Int.not_lt, Int.not_le, Bool.and_eq_true, Bool.or_eq_true, Bool.and_eq_false_iff, Bool.or_eq_false_iff] at hc9
        refine r_seq ?_
        refine r_region' ?_
        refine l_q (q_move (v := .int _ _) rfl rfl) ?_
        refine l_q (q_assign (v := .int _ _) rfl rfl) ?_
        refine l_nil ?_
        refine r_forget [(4, .int _ _)] ⟨rfl, trivial⟩ (fun e10 => ?_)
        refine r_ret_ (vs := [.int _ _]) rfl Try.func55 rfl (.nil _) ⟨rfl, trivial⟩ ?_
        exact ⟨vint_eq (idxI_found (by omega) (by assumption) hno).symm, Ext.of_below hB⟩
      · skip
        try simp only [decide_eq_true_eq, decide_eq_false_iff_not, Bool.not_eq_true', Bool.not_eq_false', Bool.not_not, Bool.not_true, Bool.not_false, Bool.not_eq_true, Bool.not_eq_false, Int.not_lt, Int.not_le, Bool.and_eq_true, Bool.or_eq_true, Bool.and_eq_false_iff, Bool.or_eq_false_iff] at hc9
        refine r_skip ?_
        refine r_inBlock ?_
        refine r_region' ?_
        refine l_q (q_add rfl rfl (by omega) rfl) ?_
        refine l_q (q_move (v := .int _ _) rfl rfl) ?_
        refine l_nil ?_
        refine r_forget [(0, .slice _ _ _), (1, .func _ _ _), (7, .int _ _), (8, .int _ _)] ⟨rfl, rfl, rfl, rfl, trivial⟩ (fun e11 => ?_)
        exact ih3 (k + 1) _ _ ⟨⟨rfl, rfl, rfl, by first | rfl | exact vint_eq (by omega), trivial⟩, (by omega), (fun i hi => by rcases Nat.lt_succ_iff_lt_or_eq.1 hi with h | h; exact hno i h; subst h; assumption), hsz, hB⟩ (by first | omega | (dsimp only; omega))
    · skip
      try simp only [decide_eq_true_eq, decide_eq_false_iff_not, Bool.not_eq_true', Bool.not_eq_false', Bool.not_not, Bool.not_true, Bool.not_false, Bool.not_eq_true, Bool.not_eq_false, Int.not_lt, Int.not_le, Bool.and_eq_true, Bool.or_eq_true, Bool.and_eq_false_iff, Bool.or_eq_false_iff] at hc4
      refine r_exit rfl ?_
      refine r_seq ?_
      refine r_region' ?_
      refine l_q (q_assign (v := .int _ _) rfl rfl) ?_
      refine l_nil ?_
      refine r_forget [(4, .int _ _)] ⟨rfl, trivial⟩ (fun e12 => ?_)
      refine r_ret_ (vs := [.int _ _]) rfl Try.func55 rfl (.nil _) ⟨rfl, trivial⟩ ?_
      exact ⟨vint_eq (idxI_none (fun i hi => hno i (by omega))).symm, Ext.of_below hB⟩
theorem containsFunc_int_ret (a : Option Addr) (n c : Nat) (cs : List Value) (g : FuncId) (fst cap : List Value) (p : Nat → Bool) (w : World) (hrow : Row w a n c 1 cs) (hp : PredI Try.prog w g fst cap cs p) (hn : n ≤ 9223372036854775806) : Ret Try.prog 49 [.slice a n c, .func (.func g) ⟨fst⟩ ⟨cap⟩] w (fun v w' => v = .bool ((List.range n).any p) ∧ Ext w w') := by
  have hB := Below.refl w.heap.size w
  have hsz : w.heap.size ≤ w.heap.size := Nat.le_refl _
  refine ret_of_runs (args := [_, _]) Try.func49 rfl (Nat.le_of_ble_eq_true rfl) (by kernel_rfl) ?_
  refine r_seq ?_
  refine r_region' ?_
  refine l_q (q_assign (v := .bool _) rfl rfl) ?_
  refine l_nil ?_
  refine r_forget [(0, .slice _ _ _), (1, .func _ _ _)] ⟨rfl, rfl, trivial⟩ (fun e1 => ?_)
  refine r_seq ?_
  refine r_region' ?_
  refine l_q (q_move (v := .slice _ _ _) rfl rfl) ?_
  refine l_q (q_move (v := .func _ _ _) rfl rfl) ?_
  refine l_o (o_call Try.call55 rfl (indexFunc_int_ret _ _ _ _ _ _ _ _ _ (hrow.below hB) (hp.ext (Ext.of_below hB)) hn) rfl ?_)
  rintro _ w2 ⟨rfl, hE2⟩
  replace hB := below_ext hB hE2 hsz
  replace hsz := Nat.le_trans hsz hE2.size
  refine l_q (q_geq rfl rfl rfl) ?_
  refine l_q (q_assign (v := .bool _) rfl rfl) ?_
  refine l_nil ?_
  refine r_forget [(4, .bool _)] ⟨rfl, trivial⟩ (fun e3 => ?_)
  refine r_ret_ (vs := [.bool _]) rfl Try.func49 rfl (.nil _) ⟨rfl, trivial⟩ ?_
  exact ⟨vbool_eq (idxI_nonneg p n), Ext.of_below hB⟩
end Go.Proofs.Ytfbjllabgkabkaa
