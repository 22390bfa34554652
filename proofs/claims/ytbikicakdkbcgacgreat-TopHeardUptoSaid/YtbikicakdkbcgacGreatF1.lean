/- Contracts. -/
import Derived.Test.YtbikicakdkbcgacGreatProg
import Derived.Test.YtbikicakdkbcgacGreatGvA
import Derived.Test.YtbikicakdkbcgacGreatFl
set_option linter.unusedVariables false
set_option linter.unusedSimpArgs false
namespace Go.Proofs.YtbikicakdkbcgacGreat
open Go Go.RowKit Go.Gv Go.Fl

theorem ibs (s : List UInt8) (b : UInt8) (w : World) : (callFunc 171 (List.toArray [vstr s, .int .u8 b.toNat])).run Tryz.prog w = .ok (.value (vint (Lib.indexByte s b))) w := by
  have h := Lib.run_indexByteString (P := Tryz.prog) ⟨⟨s⟩⟩ b.toNat w
  rw [run_callFunc_extern Tryz.func171 (by kernel_rfl) (by kernel_rfl) (by kernel_rfl) (e := Extern.BytealgIndexByte.indexByte) (by kernel_rfl)]
  rw [show (List.toArray [vstr s, .int .u8 b.toNat]) = #[.string ⟨⟨s⟩⟩, .int .u8 b.toNat] from rfl, h]
  simp
theorem ib_nonneg (s : List UInt8) (b : UInt8) : decide (0 ≤ Lib.indexByte s b) = s.contains b := by
  have h : ∀ s : List UInt8, -1 ≤ Lib.indexByte s b ∧ (0 ≤ Lib.indexByte s b ↔ b ∈ s) := by
    intro s
    induction s with
    | nil => simp [Lib.indexByte]
    | cons x l ih =>
      unfold Lib.indexByte
      by_cases hx : x = b
      · subst hx; simp
      · have hx' : (x == b) = false := by simpa using hx
        have hb : ¬ b = x := fun h => hx h.symm
        rw [hx']
        simp only [Bool.false_eq_true, if_false, List.mem_cons, hb, false_or, beq_iff_eq]
        by_cases h1 : Lib.indexByte l b = -1
        · simp [h1]; intro hm; have := ih.2.2 hm; omega
        · rw [if_neg h1]; constructor
          · omega
          · rw [← ih.2]; omega
  rw [Bool.eq_iff_iff, decide_eq_true_eq, (h s).2, List.contains_iff_mem]

theorem fld149_0 (w : World) (b o : Nat) : (Instr.fieldAt 149 (ptr b o) 0).run Tryz.prog w = .ok (ptr b (o + 0)) w := by
  simp [Instr.fieldAt, run_underlying Tryz.underlying149, fieldPlace, Instr.sureAddr, Tryz.sizeOf9, Addr.add_lit]
theorem hasPrefix0_ret (s p : List UInt8) (w : World) : Ret Tryz.prog 180 [vstr s, vstr p] w (fun v w' => v = .bool (hasPfx s p) ∧ w = w') := by
 have hB := Below.refl w.heap.size w
 have hsz : w.heap.size ≤ w.heap.size := Nat.le_refl _
 refine ret_of_runs (args := [_, _]) Tryz.func180 rfl (Nat.le_of_ble_eq_true rfl) (by kernel_rfl) (r_seq (r_region' (l_q (qab rfl rfl) (l_nil (r_seq (r_region' (l_q (q_move (v := .string _) rfl rfl) (l_q (q_len_str rfl Tryz.underlying9 rfl rfl) (l_q (q_move (v := .string _) rfl rfl) (l_q (q_len_str rfl Tryz.underlying9 rfl rfl) (l_q (q_geq rfl rfl rfl) (l_q (qmb rfl rfl) (l_part 10 rfl (fun hc1 => ?_) (fun hc1 => ?_))))))))))))))
 ·
  replace hc1 := dt hc1
  refine l_q (q_move (v := .string _) rfl rfl) (l_q (q_move (v := .string _) rfl rfl) (l_q (q_len_str rfl Tryz.underlying9 rfl rfl) (l_q (q_slice_str_hi Tryz.underlying9 rfl rfl (by omega) rfl) (l_q (q_move (v := .string _) rfl rfl) (l_q (q_eql_str rfl rfl rfl) (l_q (q_pick_t (v := .bool _) rfl rfl rfl) (l_q (qab rfl rfl) (l_nil (r_forget [(4, .bool _)] ⟨rfl, trivial⟩ (fun e2 => (r_ret_ (vs := [.bool _]) rfl Tryz.func180 rfl (.nil _) ⟨rfl, trivial⟩ ?_)))))))))))
  exact ⟨vbool_eq (by simp_all [hasPfx]; try (intro h; have := congrArg List.length h; simp at this; omega)), rfl⟩
 ·
  replace hc1 := dle hc1
  refine l_q (q_skip rfl) (l_q (q_skip rfl) (l_q (q_skip rfl) (l_q (q_skip rfl) (l_q (q_skip rfl) (l_q (q_skip rfl) (l_q (q_pick_f (v := .bool _) rfl rfl rfl) (l_q (qab rfl rfl) (l_nil (r_forget [(4, .bool _)] ⟨rfl, trivial⟩ (fun e3 => (r_ret_ (vs := [.bool _]) rfl Tryz.func180 rfl (.nil _) ⟨rfl, trivial⟩ ?_)))))))))))
  exact ⟨vbool_eq (by simp_all [hasPfx]; try (intro h; have := congrArg List.length h; simp at this; omega)), rfl⟩
theorem hasPrefix_ret (s p : List UInt8) (w : World) : Ret Tryz.prog 169 [vstr s, vstr p] w (fun v w' => v = .bool (hasPfx s p) ∧ w = w') := by
 have hB := Below.refl w.heap.size w
 have hsz : w.heap.size ≤ w.heap.size := Nat.le_refl _
 refine ret_of_runs (args := [_, _]) Tryz.func169 rfl (Nat.le_of_ble_eq_true rfl) (by kernel_rfl) (r_seq (r_region' (l_q (qab rfl rfl) (l_nil (r_seq (r_region' (l_q (q_move (v := .string _) rfl rfl) (l_q (q_move (v := .string _) rfl rfl) (l_o (o_call Tryz.call180 rfl (hasPrefix0_ret _ _ _) rfl ?_))))))))))
 rintro _ w1 ⟨rfl, rfl⟩
 refine l_q (qab rfl rfl) (l_nil (r_ret_ (vs := [.bool _]) rfl Tryz.func169 rfl (.nil _) ⟨rfl, trivial⟩ ?_))
 exact ⟨rfl, rfl⟩
theorem within_ret (n lo hi : Int) (w : World) : Ret Tryz.prog 111 [vint n, vint lo, vint hi] w (fun v w' => v = .bool (decide (lo ≤ n) && decide (n ≤ hi)) ∧ w = w') := by
 have hB := Below.refl w.heap.size w
 have hsz : w.heap.size ≤ w.heap.size := Nat.le_refl _
 refine ret_of_runs (args := [_, _, _]) Tryz.func111 rfl (Nat.le_of_ble_eq_true rfl) (by kernel_rfl) (r_seq (r_region' (l_q (qab rfl rfl) (l_nil (r_seq (r_region' (l_q (qmi rfl rfl) (l_q (qmi rfl rfl) (l_q (q_leq rfl rfl rfl) (l_q (qmb rfl rfl) (l_part 10 rfl (fun hc1 => ?_) (fun hc1 => ?_))))))))))))
 ·
  replace hc1 := dt hc1
  refine l_q (qmi rfl rfl) (l_q (qmi rfl rfl) (l_q (q_leq rfl rfl rfl) (l_q (q_pick_t (v := .bool _) rfl rfl rfl) (l_q (qab rfl rfl) (l_nil (r_forget [(6, .bool _)] ⟨rfl, trivial⟩ (fun e2 => (r_ret_ (vs := [.bool _]) rfl Tryz.func111 rfl (.nil _) ⟨rfl, trivial⟩ ?_))))))))
  exact ⟨vbool_eq (by simp_all <;> omega), rfl⟩
 ·
  replace hc1 := dle hc1
  refine l_q (q_skip rfl) (l_q (q_skip rfl) (l_q (q_skip rfl) (l_q (q_pick_f (v := .bool _) rfl rfl rfl) (l_q (qab rfl rfl) (l_nil (r_forget [(6, .bool _)] ⟨rfl, trivial⟩ (fun e3 => (r_ret_ (vs := [.bool _]) rfl Tryz.func111 rfl (.nil _) ⟨rfl, trivial⟩ ?_))))))))
  exact ⟨vbool_eq (by simp_all <;> omega), rfl⟩
theorem indexByte0_ret (s : List UInt8) (b : UInt8) (w : World) : Ret Tryz.prog 163 [vstr s, .int .u8 b.toNat] w (fun v w' => v = vint (Lib.indexByte s b) ∧ w = w') := by
 have hB := Below.refl w.heap.size w
 have hsz : w.heap.size ≤ w.heap.size := Nat.le_refl _
 refine ret_of_runs (args := [_, _]) Tryz.func163 rfl (Nat.le_of_ble_eq_true rfl) (by kernel_rfl) (r_seq (r_region' (l_q (qai rfl rfl) (l_nil (r_seq (r_region' (l_q (q_move (v := .string _) rfl rfl) (l_q (qmi rfl rfl) (l_q (q_extern (ibs _ _) rfl rfl) (l_q (qai rfl rfl) (l_nil (r_ret_ (vs := [.int _ _]) rfl Tryz.func163 rfl (.nil _) ⟨rfl, trivial⟩ ?_))))))))))))
 exact ⟨rfl, rfl⟩
theorem indexByte_ret (s : List UInt8) (b : UInt8) (w : World) : Ret Tryz.prog 149 [vstr s, .int .u8 b.toNat] w (fun v w' => v = vint (Lib.indexByte s b) ∧ w = w') := by
 have hB := Below.refl w.heap.size w
 have hsz : w.heap.size ≤ w.heap.size := Nat.le_refl _
 refine ret_of_runs (args := [_, _]) Tryz.func149 rfl (Nat.le_of_ble_eq_true rfl) (by kernel_rfl) (r_seq (r_region' (l_q (qai rfl rfl) (l_nil (r_seq (r_region' (l_q (q_move (v := .string _) rfl rfl) (l_q (qmi rfl rfl) (l_o (o_call Tryz.call163 rfl (indexByte0_ret _ _ _) rfl ?_))))))))))
 rintro _ w1 ⟨rfl, rfl⟩
 refine l_q (qai rfl rfl) (l_nil (r_ret_ (vs := [.int _ _]) rfl Tryz.func149 rfl (.nil _) ⟨rfl, trivial⟩ ?_))
 exact ⟨rfl, rfl⟩
theorem has_ret (s : List UInt8) (m : Int) (b : UInt8) (w : World) : Ret Tryz.prog 113 [.agg ⟨[vstr s, vint m]⟩, .int .u8 b.toNat] w (fun v w' => v = .bool (s.contains b) ∧ Ext w w') := by
 have hB := Below.refl w.heap.size w
 have hsz : w.heap.size ≤ w.heap.size := Nat.le_refl _
 refine ret_of_runs (args := [_, _]) Tryz.func113 rfl (Nat.le_of_ble_eq_true rfl) (by kernel_rfl) (r_seq (r_region' (l_o (o_box rfl rfl rfl ?_))))
 intro b1 w1 hzl1 hzr1 _ hb1 hE1
 have hbs_b1 : w.heap.size ≤ b1 := Nat.le_trans hsz hzl1
 replace hB := below_ext hB hE1 hsz
 replace hsz := Nat.le_trans hsz hE1.size
 refine l_q (qab rfl rfl) (l_nil (r_seq (r_region' (l_q (q_fieldAddr (o' := 0) rfl fld149_0 rfl) (l_q (q_load Tryz.isAgg9 rfl ((hb1.has (o := 0) rfl)) rfl) (l_q (qmi rfl rfl) (l_o (o_call Tryz.call149 rfl (indexByte_ret _ _ _) rfl ?_))))))))
 rintro _ w2 ⟨rfl, rfl⟩
 refine l_q (q_geq rfl rfl rfl) (l_q (qab rfl rfl) (l_nil (r_ret_ (vs := [.bool _]) rfl Tryz.func113 rfl (.nil _) ⟨rfl, trivial⟩ ?_)))
 exact ⟨vbool_eq (ib_nonneg _ _), Ext.of_below hB⟩
theorem indexFunc_byte_ret (a : Option Addr) (n c : Nat) (cs : List Value) (g : FuncId) (fst cap : List Value) (p : Nat → Bool) (w : World) (hrow : Row w a n c 1 cs) (hp : PredI Tryz.prog w g fst cap cs p) (hn : n ≤ 9223372036854775806) : Ret Tryz.prog 162 [.slice a n c, .func (.func g) ⟨fst⟩ ⟨cap⟩] w (fun v w' => v = vint (idxI p n) ∧ Ext w w') := by
 have hl : cs.length = n := by have := hrow.1; omega
 have hB := Below.refl w.heap.size w
 have hsz : w.heap.size ≤ w.heap.size := Nat.le_refl _
 refine ret_of_runs (args := [_, _]) Tryz.func162 rfl (Nat.le_of_ble_eq_true rfl) (by kernel_rfl) (r_seq (r_region' (l_q (qai rfl rfl) (l_nil (r_seq (r_seq (r_region' (l_q (qms rfl rfl) (l_q (q_len rfl Tryz.underlying169 rfl rfl) (l_q (qmi rfl rfl) (l_nil (r_block (r_rounds (α := Nat) (fun k e wl => Knows e [(0, .slice a n c), (1, .func (.func g) ⟨fst⟩ ⟨cap⟩), (7, vint (n : Int)), (8, vint (k : Int))] ∧ (k ≤ n) ∧ (∀ i, i < k → p i = false) ∧ (w.heap.size ≤ wl.heap.size) ∧ (Below w.heap.size w wl)) (fun k => n - k) 0 ?_ ?_)))))))))))))
 ·
  exact ⟨⟨rfl, rfl, rfl, rfl, trivial⟩, (Nat.zero_le _), (fun i hi => absurd hi (Nat.not_lt_zero _)), hsz, hB⟩
 ·
  rintro k el1 wl1 ⟨hkn, hk, hno, hsz, hB⟩ ih1
  obtain ⟨e1, rfl⟩ := knows_env hkn
  refine r_seq (r_region' (l_q (q_lss rfl rfl rfl) (l_nil (r_seq (r_cond rfl (fun hc2 => ?_) (fun hc2 => ?_))))))
  ·
   replace hc2 := dt hc2
   refine r_skip (r_seq (r_block (r_seq (r_region' (l_q (qmi rfl rfl) (l_q (qai rfl rfl) (l_nil (r_seq (r_region' (l_q (q_move (v := .func _ _ _) rfl rfl) (l_q (qms rfl rfl) (l_q (qmi rfl rfl) ?_))))))))))))
   obtain ⟨b3, o3, ha3, hh3⟩ := (hrow.below hB).at1r k ((cs).getD k undef) (getD_some (by omega))
   refine l_q (q_indexAddr1 Tryz.underlying169 Tryz.sizeOf5 rfl ha3 rfl (by omega) rfl) (l_q (q_load Tryz.isAgg5 rfl (hh3) rfl) (l_o (o_callv (f := g) (fst := fst) (cap := cap) rfl hp.1 rfl (hp.2 _ (Ext.of_below hB) k _ (getD_some (by omega))) rfl ?_)))
   rintro _ w4 ⟨rfl, hE4⟩
   replace hB := below_ext hB hE4 hsz
   replace hsz := Nat.le_trans hsz hE4.size
   refine l_nil (r_cond rfl (fun hc5 => ?_) (fun hc5 => ?_))
   ·
    refine r_seq (r_region' (l_q (qmi rfl rfl) (l_q (qai rfl rfl) (l_nil (r_forget [(4, .int _ _)] ⟨rfl, trivial⟩ (fun e6 => (r_ret_ (vs := [.int _ _]) rfl Tryz.func162 rfl (.nil _) ⟨rfl, trivial⟩ ?_)))))))
    exact ⟨vint_eq (idxI_found (by omega) (by assumption) hno).symm, Ext.of_below hB⟩
   ·
    refine r_skip (r_inBlock (r_region' (l_q (q_add rfl rfl (by omega) rfl) (l_q (qmi rfl rfl) (l_nil (r_forget [(0, .slice _ _ _), (1, .func _ _ _), (7, .int _ _), (8, .int _ _)] ⟨rfl, rfl, rfl, rfl, trivial⟩ (fun e7 => ?_)))))))
    exact ih1 (k + 1) _ _ ⟨⟨rfl, rfl, rfl, by first | rfl | exact vint_eq (by omega), trivial⟩, (by omega), (fun i hi => by rcases Nat.lt_succ_iff_lt_or_eq.1 hi with h | h; exact hno i h; subst h; assumption), hsz, hB⟩ (by first | omega | (dsimp only; omega))
  ·
   replace hc2 := dlt hc2
   refine r_exit rfl (r_seq (r_region' (l_q (qai rfl rfl) (l_nil (r_ret_ (vs := [.int _ _]) rfl Tryz.func162 rfl (.nil _) ⟨rfl, trivial⟩ ?_)))))
   exact ⟨vint_eq (idxI_none (fun i hi => hno i (by omega))).symm, Ext.of_below hB⟩
theorem containsFunc_byte_ret (a : Option Addr) (n c : Nat) (cs : List Value) (g : FuncId) (fst cap : List Value) (p : Nat → Bool) (w : World) (hrow : Row w a n c 1 cs) (hp : PredI Tryz.prog w g fst cap cs p) (hn : n ≤ 9223372036854775806) : Ret Tryz.prog 147 [.slice a n c, .func (.func g) ⟨fst⟩ ⟨cap⟩] w (fun v w' => v = .bool ((List.range n).any p) ∧ Ext w w') := by
 have hB := Below.refl w.heap.size w
 have hsz : w.heap.size ≤ w.heap.size := Nat.le_refl _
 refine ret_of_runs (args := [_, _]) Tryz.func147 rfl (Nat.le_of_ble_eq_true rfl) (by kernel_rfl) (r_seq (r_region' (l_q (qab rfl rfl) (l_nil (r_seq (r_region' (l_q (qms rfl rfl) (l_q (q_move (v := .func _ _ _) rfl rfl) (l_o (o_call Tryz.call162 rfl (indexFunc_byte_ret _ _ _ _ _ _ _ _ _ (hrow.below hB) (hp.ext (Ext.of_below hB)) hn) rfl ?_))))))))))
 rintro _ w1 ⟨rfl, hE1⟩
 replace hB := below_ext hB hE1 hsz
 replace hsz := Nat.le_trans hsz hE1.size
 refine l_q (q_geq rfl rfl rfl) (l_q (qab rfl rfl) (l_nil (r_ret_ (vs := [.bool _]) rfl Tryz.func147 rfl (.nil _) ⟨rfl, trivial⟩ ?_)))
 exact ⟨vbool_eq (idxI_nonneg p n), Ext.of_below hB⟩
theorem indexFunc_string_ret (a : Option Addr) (n c : Nat) (cs : List Value) (g : FuncId) (fst cap : List Value) (p : Nat → Bool) (w : World) (hrow : Row w a n c 1 cs) (hp : PredI Tryz.prog w g fst cap cs p) (hn : n ≤ 9223372036854775806) : Ret Tryz.prog 150 [.slice a n c, .func (.func g) ⟨fst⟩ ⟨cap⟩] w (fun v w' => v = vint (idxI p n) ∧ Ext w w') := by
 have hl : cs.length = n := by have := hrow.1; omega
 have hB := Below.refl w.heap.size w
 have hsz : w.heap.size ≤ w.heap.size := Nat.le_refl _
 refine ret_of_runs (args := [_, _]) Tryz.func150 rfl (Nat.le_of_ble_eq_true rfl) (by kernel_rfl) (r_seq (r_region' (l_q (qai rfl rfl) (l_nil (r_seq (r_seq (r_region' (l_q (qms rfl rfl) (l_q (q_len rfl Tryz.underlying28 rfl rfl) (l_q (qmi rfl rfl) (l_nil (r_block (r_rounds (α := Nat) (fun k e wl => Knows e [(0, .slice a n c), (1, .func (.func g) ⟨fst⟩ ⟨cap⟩), (7, vint (n : Int)), (8, vint (k : Int))] ∧ (k ≤ n) ∧ (∀ i, i < k → p i = false) ∧ (w.heap.size ≤ wl.heap.size) ∧ (Below w.heap.size w wl)) (fun k => n - k) 0 ?_ ?_)))))))))))))
 ·
  exact ⟨⟨rfl, rfl, rfl, rfl, trivial⟩, (Nat.zero_le _), (fun i hi => absurd hi (Nat.not_lt_zero _)), hsz, hB⟩
 ·
  rintro k el1 wl1 ⟨hkn, hk, hno, hsz, hB⟩ ih1
  obtain ⟨e1, rfl⟩ := knows_env hkn
  refine r_seq (r_region' (l_q (q_lss rfl rfl rfl) (l_nil (r_seq (r_cond rfl (fun hc2 => ?_) (fun hc2 => ?_))))))
  ·
   replace hc2 := dt hc2
   refine r_skip (r_seq (r_block (r_seq (r_region' (l_q (qmi rfl rfl) (l_q (qai rfl rfl) (l_nil (r_seq (r_region' (l_q (q_move (v := .func _ _ _) rfl rfl) (l_q (qms rfl rfl) (l_q (qmi rfl rfl) ?_))))))))))))
   obtain ⟨b3, o3, ha3, hh3⟩ := (hrow.below hB).at1r k ((cs).getD k undef) (getD_some (by omega))
   refine l_q (q_indexAddr1 Tryz.underlying28 Tryz.sizeOf9 rfl ha3 rfl (by omega) rfl) (l_q (q_load Tryz.isAgg9 rfl (hh3) rfl) (l_o (o_callv (f := g) (fst := fst) (cap := cap) rfl hp.1 rfl (hp.2 _ (Ext.of_below hB) k _ (getD_some (by omega))) rfl ?_)))
   rintro _ w4 ⟨rfl, hE4⟩
   replace hB := below_ext hB hE4 hsz
   replace hsz := Nat.le_trans hsz hE4.size
   refine l_nil (r_cond rfl (fun hc5 => ?_) (fun hc5 => ?_))
   ·
    refine r_seq (r_region' (l_q (qmi rfl rfl) (l_q (qai rfl rfl) (l_nil (r_forget [(4, .int _ _)] ⟨rfl, trivial⟩ (fun e6 => (r_ret_ (vs := [.int _ _]) rfl Tryz.func150 rfl (.nil _) ⟨rfl, trivial⟩ ?_)))))))
    exact ⟨vint_eq (idxI_found (by omega) (by assumption) hno).symm, Ext.of_below hB⟩
   ·
    refine r_skip (r_inBlock (r_region' (l_q (q_add rfl rfl (by omega) rfl) (l_q (qmi rfl rfl) (l_nil (r_forget [(0, .slice _ _ _), (1, .func _ _ _), (7, .int _ _), (8, .int _ _)] ⟨rfl, rfl, rfl, rfl, trivial⟩ (fun e7 => ?_)))))))
    exact ih1 (k + 1) _ _ ⟨⟨rfl, rfl, rfl, by first | rfl | exact vint_eq (by omega), trivial⟩, (by omega), (fun i hi => by rcases Nat.lt_succ_iff_lt_or_eq.1 hi with h | h; exact hno i h; subst h; assumption), hsz, hB⟩ (by first | omega | (dsimp only; omega))
  ·
   replace hc2 := dlt hc2
   refine r_exit rfl (r_seq (r_region' (l_q (qai rfl rfl) (l_nil (r_ret_ (vs := [.int _ _]) rfl Tryz.func150 rfl (.nil _) ⟨rfl, trivial⟩ ?_)))))
   exact ⟨vint_eq (idxI_none (fun i hi => hno i (by omega))).symm, Ext.of_below hB⟩
theorem containsFunc_string_ret (a : Option Addr) (n c : Nat) (cs : List Value) (g : FuncId) (fst cap : List Value) (p : Nat → Bool) (w : World) (hrow : Row w a n c 1 cs) (hp : PredI Tryz.prog w g fst cap cs p) (hn : n ≤ 9223372036854775806) : Ret Tryz.prog 114 [.slice a n c, .func (.func g) ⟨fst⟩ ⟨cap⟩] w (fun v w' => v = .bool ((List.range n).any p) ∧ Ext w w') := by
 have hB := Below.refl w.heap.size w
 have hsz : w.heap.size ≤ w.heap.size := Nat.le_refl _
 refine ret_of_runs (args := [_, _]) Tryz.func114 rfl (Nat.le_of_ble_eq_true rfl) (by kernel_rfl) (r_seq (r_region' (l_q (qab rfl rfl) (l_nil (r_seq (r_region' (l_q (qms rfl rfl) (l_q (q_move (v := .func _ _ _) rfl rfl) (l_o (o_call Tryz.call150 rfl (indexFunc_string_ret _ _ _ _ _ _ _ _ _ (hrow.below hB) (hp.ext (Ext.of_below hB)) hn) rfl ?_))))))))))
 rintro _ w1 ⟨rfl, hE1⟩
 replace hB := below_ext hB hE1 hsz
 replace hsz := Nat.le_trans hsz hE1.size
 refine l_q (q_geq rfl rfl rfl) (l_q (qab rfl rfl) (l_nil (r_ret_ (vs := [.bool _]) rfl Tryz.func114 rfl (.nil _) ⟨rfl, trivial⟩ ?_)))
 exact ⟨vbool_eq (idxI_nonneg p n), Ext.of_below hB⟩
theorem indexFunc_int_ret (a : Option Addr) (n c : Nat) (cs : List Value) (g : FuncId) (fst cap : List Value) (p : Nat → Bool) (w : World) (hrow : Row w a n c 1 cs) (hp : PredI Tryz.prog w g fst cap cs p) (hn : n ≤ 9223372036854775806) : Ret Tryz.prog 110 [.slice a n c, .func (.func g) ⟨fst⟩ ⟨cap⟩] w (fun v w' => v = vint (idxI p n) ∧ Ext w w') := by
 have hl : cs.length = n := by have := hrow.1; omega
 have hB := Below.refl w.heap.size w
 have hsz : w.heap.size ≤ w.heap.size := Nat.le_refl _
 refine ret_of_runs (args := [_, _]) Tryz.func110 rfl (Nat.le_of_ble_eq_true rfl) (by kernel_rfl) (r_seq (r_region' (l_q (qai rfl rfl) (l_nil (r_seq (r_seq (r_region' (l_q (qms rfl rfl) (l_q (q_len rfl Tryz.underlying31 rfl rfl) (l_q (qmi rfl rfl) (l_nil (r_block (r_rounds (α := Nat) (fun k e wl => Knows e [(0, .slice a n c), (1, .func (.func g) ⟨fst⟩ ⟨cap⟩), (7, vint (n : Int)), (8, vint (k : Int))] ∧ (k ≤ n) ∧ (∀ i, i < k → p i = false) ∧ (w.heap.size ≤ wl.heap.size) ∧ (Below w.heap.size w wl)) (fun k => n - k) 0 ?_ ?_)))))))))))))
 ·
  exact ⟨⟨rfl, rfl, rfl, rfl, trivial⟩, (Nat.zero_le _), (fun i hi => absurd hi (Nat.not_lt_zero _)), hsz, hB⟩
 ·
  rintro k el1 wl1 ⟨hkn, hk, hno, hsz, hB⟩ ih1
  obtain ⟨e1, rfl⟩ := knows_env hkn
  refine r_seq (r_region' (l_q (q_lss rfl rfl rfl) (l_nil (r_seq (r_cond rfl (fun hc2 => ?_) (fun hc2 => ?_))))))
  ·
   replace hc2 := dt hc2
   refine r_skip (r_seq (r_block (r_seq (r_region' (l_q (qmi rfl rfl) (l_q (qai rfl rfl) (l_nil (r_seq (r_region' (l_q (q_move (v := .func _ _ _) rfl rfl) (l_q (qms rfl rfl) (l_q (qmi rfl rfl) ?_))))))))))))
   obtain ⟨b3, o3, ha3, hh3⟩ := (hrow.below hB).at1r k ((cs).getD k undef) (getD_some (by omega))
   refine l_q (q_indexAddr1 Tryz.underlying31 Tryz.sizeOf3 rfl ha3 rfl (by omega) rfl) (l_q (q_load Tryz.isAgg3 rfl (hh3) rfl) (l_o (o_callv (f := g) (fst := fst) (cap := cap) rfl hp.1 rfl (hp.2 _ (Ext.of_below hB) k _ (getD_some (by omega))) rfl ?_)))
   rintro _ w4 ⟨rfl, hE4⟩
   replace hB := below_ext hB hE4 hsz
   replace hsz := Nat.le_trans hsz hE4.size
   refine l_nil (r_cond rfl (fun hc5 => ?_) (fun hc5 => ?_))
   ·
    refine r_seq (r_region' (l_q (qmi rfl rfl) (l_q (qai rfl rfl) (l_nil (r_forget [(4, .int _ _)] ⟨rfl, trivial⟩ (fun e6 => (r_ret_ (vs := [.int _ _]) rfl Tryz.func110 rfl (.nil _) ⟨rfl, trivial⟩ ?_)))))))
    exact ⟨vint_eq (idxI_found (by omega) (by assumption) hno).symm, Ext.of_below hB⟩
   ·
    refine r_skip (r_inBlock (r_region' (l_q (q_add rfl rfl (by omega) rfl) (l_q (qmi rfl rfl) (l_nil (r_forget [(0, .slice _ _ _), (1, .func _ _ _), (7, .int _ _), (8, .int _ _)] ⟨rfl, rfl, rfl, rfl, trivial⟩ (fun e7 => ?_)))))))
    exact ih1 (k + 1) _ _ ⟨⟨rfl, rfl, rfl, by first | rfl | exact vint_eq (by omega), trivial⟩, (by omega), (fun i hi => by rcases Nat.lt_succ_iff_lt_or_eq.1 hi with h | h; exact hno i h; subst h; assumption), hsz, hB⟩ (by first | omega | (dsimp only; omega))
  ·
   replace hc2 := dlt hc2
   refine r_exit rfl (r_seq (r_region' (l_q (qai rfl rfl) (l_nil (r_ret_ (vs := [.int _ _]) rfl Tryz.func110 rfl (.nil _) ⟨rfl, trivial⟩ ?_)))))
   exact ⟨vint_eq (idxI_none (fun i hi => hno i (by omega))).symm, Ext.of_below hB⟩
theorem containsFunc_int_ret (a : Option Addr) (n c : Nat) (cs : List Value) (g : FuncId) (fst cap : List Value) (p : Nat → Bool) (w : World) (hrow : Row w a n c 1 cs) (hp : PredI Tryz.prog w g fst cap cs p) (hn : n ≤ 9223372036854775806) : Ret Tryz.prog 72 [.slice a n c, .func (.func g) ⟨fst⟩ ⟨cap⟩] w (fun v w' => v = .bool ((List.range n).any p) ∧ Ext w w') := by
 have hB := Below.refl w.heap.size w
 have hsz : w.heap.size ≤ w.heap.size := Nat.le_refl _
 refine ret_of_runs (args := [_, _]) Tryz.func72 rfl (Nat.le_of_ble_eq_true rfl) (by kernel_rfl) (r_seq (r_region' (l_q (qab rfl rfl) (l_nil (r_seq (r_region' (l_q (qms rfl rfl) (l_q (q_move (v := .func _ _ _) rfl rfl) (l_o (o_call Tryz.call110 rfl (indexFunc_int_ret _ _ _ _ _ _ _ _ _ (hrow.below hB) (hp.ext (Ext.of_below hB)) hn) rfl ?_))))))))))
 rintro _ w1 ⟨rfl, hE1⟩
 replace hB := below_ext hB hE1 hsz
 replace hsz := Nat.le_trans hsz hE1.size
 refine l_q (q_geq rfl rfl rfl) (l_q (qab rfl rfl) (l_nil (r_ret_ (vs := [.bool _]) rfl Tryz.func72 rfl (.nil _) ⟨rfl, trivial⟩ ?_)))
 exact ⟨vbool_eq (idxI_nonneg p n), Ext.of_below hB⟩
end Go.Proofs.YtbikicakdkbcgacGreat
