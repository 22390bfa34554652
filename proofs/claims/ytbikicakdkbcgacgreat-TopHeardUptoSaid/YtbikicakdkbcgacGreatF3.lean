/- Contracts. -/
import Derived.Test.YtbikicakdkbcgacGreatF2
import Derived.Test.YtbikicakdkbcgacGreatJoin
set_option linter.unusedVariables false
set_option linter.unusedSimpArgs false
namespace Go.Proofs.YtbikicakdkbcgacGreat
open Go Go.RowKit Go.Gv Go.Fl

theorem u8_ne {b : UInt8} {n : UInt8} (h : ¬ ((b.toNat : Int) = n.toNat)) : b ≠ n := fun he => h (by rw [he])
theorem u8_or {b : UInt8} (h : ((b.toNat : Int) = 46) ∨ ((b.toNat : Int) = 45)) : b = 46 ∨ b = 45 := by
  rcases h with h | h
  · left; apply UInt8.toNat_inj.1; exact_mod_cast h
  · right; apply UInt8.toNat_inj.1; exact_mod_cast h

theorem fld30_0 (w : World) (b o : Nat) : (Instr.fieldAt 30 (ptr b o) 0).run Tryz.prog w = .ok (ptr b (o + 0)) w := by
  simp [Instr.fieldAt, run_underlying Tryz.underlying30, fieldPlace, Instr.sureAddr, Tryz.sizeOf28, Addr.add_lit]
theorem in_ret (n lo hi : Int) (w : World) : Ret Tryz.prog 18 [vint n, vint lo, vint hi] w (fun v w' => v = .bool (decide (lo ≤ n) && decide (n ≤ hi)) ∧ w = w') := by
 have hB := Below.refl w.heap.size w
 have hsz : w.heap.size ≤ w.heap.size := Nat.le_refl _
 refine ret_of_runs (args := [_, _, _]) Tryz.func18 rfl (Nat.le_of_ble_eq_true rfl) (by kernel_rfl) (r_seq (r_region' (l_q (qab rfl rfl) (l_nil (r_seq (r_region' (l_q (qmi rfl rfl) (l_q (qmi rfl rfl) (l_q (q_geq rfl rfl rfl) (l_q (qmb rfl rfl) (l_part 10 rfl (fun hc1 => ?_) (fun hc1 => ?_))))))))))))
 ·
  replace hc1 := dt hc1
  refine l_q (qmi rfl rfl) (l_q (qmi rfl rfl) (l_q (q_leq rfl rfl rfl) (l_q (q_pick_t (v := .bool _) rfl rfl rfl) (l_q (qab rfl rfl) (l_nil (r_forget [(6, .bool _)] ⟨rfl, trivial⟩ (fun e2 => (r_ret_ (vs := [.bool _]) rfl Tryz.func18 rfl (.nil _) ⟨rfl, trivial⟩ ?_))))))))
  exact ⟨vbool_eq (by simp_all <;> omega), rfl⟩
 ·
  replace hc1 := dle hc1
  refine l_q (q_skip rfl) (l_q (q_skip rfl) (l_q (q_skip rfl) (l_q (q_pick_f (v := .bool _) rfl rfl rfl) (l_q (qab rfl rfl) (l_nil (r_forget [(6, .bool _)] ⟨rfl, trivial⟩ (fun e3 => (r_ret_ (vs := [.bool _]) rfl Tryz.func18 rfl (.nil _) ⟨rfl, trivial⟩ ?_))))))))
  exact ⟨vbool_eq (by simp_all <;> omega), rfl⟩
theorem fault_ret (a : Option Addr) (cc : Nat) (c : List Sg) (w : World) (hrow : Row w a c.length cc 1 (c.map vstr)) (hcn : c.length ≤ 2097152) : Ret Tryz.prog 7 [.agg ⟨[.slice a c.length cc]⟩] w (fun v w' => v = vint (fault c) ∧ Ext w w') := by
 have hB := Below.refl w.heap.size w
 have hsz : w.heap.size ≤ w.heap.size := Nat.le_refl _
 refine ret_of_runs (args := [_]) Tryz.func7 rfl (Nat.le_of_ble_eq_true rfl) (by kernel_rfl) (r_seq (r_region' (l_o (o_box rfl rfl rfl ?_))))
 intro b1 w1 hzl1 hzr1 _ hb1 hE1
 have hbs_b1 : w.heap.size ≤ b1 := Nat.le_trans hsz hzl1
 replace hB := below_ext hB hE1 hsz
 replace hsz := Nat.le_trans hsz hE1.size
 refine l_q (qai rfl rfl) (l_nil (r_seq (r_seq (r_region' (l_q (q_fieldAddr (o' := 0) rfl fld30_0 rfl) (l_q (q_load Tryz.isAgg28 rfl ((hb1.has (o := 0) rfl)) rfl) (l_q (q_len rfl Tryz.underlying28 rfl rfl) (l_q (q_gtr rfl rfl rfl) (l_nil (r_cond rfl (fun hc2 => ?_) (fun hc2 => ?_)))))))))))
 ·
  replace hc2 := dt hc2
  refine r_seq (r_region' (l_q (qai rfl rfl) (l_nil (r_ret_ (vs := [.int _ _]) rfl Tryz.func7 rfl (.nil _) ⟨rfl, trivial⟩ ?_))))
  exact ⟨vint_eq (fault_many (by omega)).symm, Ext.of_below hB⟩
 ·
  replace hc2 := dlt hc2
  refine r_skip (r_seq (r_seq (r_region' (l_q (qai rfl rfl) (l_nil (r_block (r_rounds (α := Nat) (fun i e wl => Knows e [(1, ptr b1 0), (3, vint (i : Int))] ∧ (i ≤ c.length) ∧ (c.length ≤ 6) ∧ (∀ j, j < i → letterOk (c.getD j []) = true ∧ distinctAt c j = true) ∧ (Blk wl b1 [.slice a c.length cc]) ∧ (w.heap.size ≤ wl.heap.size) ∧ (Below w.heap.size w wl)) (fun i => c.length - i) 0 ?_ ?_)))))))
  ·
   exact ⟨⟨rfl, rfl, trivial⟩, (Nat.zero_le _), (by omega), (fun i hi => absurd hi (Nat.not_lt_zero _)), hb1, hsz, hB⟩
  ·
   rintro i el3 wl3 ⟨hkn, hki, h6, hgood, hb1, hsz, hB⟩ ih3
   obtain ⟨e3, rfl⟩ := knows_env hkn
   refine r_seq (r_seq (r_region' (l_q (qmi rfl rfl) (l_q (q_fieldAddr (o' := 0) rfl fld30_0 rfl) (l_q (q_load Tryz.isAgg28 rfl ((hb1.has (o := 0) rfl)) rfl) (l_q (q_len rfl Tryz.underlying28 rfl rfl) (l_q (q_lss rfl rfl rfl) (l_nil (r_cond rfl (fun hc4 => ?_) (fun hc4 => ?_))))))))))
   ·
    replace hc4 := dt hc4
    refine r_skip (r_seq (r_block (r_seq (r_region' (l_q (q_fieldAddr (o' := 0) rfl fld30_0 rfl) (l_q (q_load Tryz.isAgg28 rfl ((hb1.has (o := 0) rfl)) rfl) (l_q (qmi rfl rfl) ?_)))))))
    obtain ⟨b5, o5, ha5, hh5⟩ := (hrow.below hB).at1 i ((c).getD i []) (getD_some (by omega))
    refine l_q (q_indexAddr1 Tryz.underlying28 Tryz.sizeOf9 rfl ha5 rfl (by omega) rfl) (l_q (q_load Tryz.isAgg9 rfl (hh5) rfl) (l_q (q_assign (v := .string _) rfl rfl) (l_nil (r_forget [(1, .pointer _), (3, .int _ _), (4, .string _)] ⟨rfl, rfl, rfl, trivial⟩ (fun e6 => (r_seq (r_seq (r_region' (l_q (q_move (v := .string _) rfl rfl) (l_q (q_len_str rfl Tryz.underlying9 rfl rfl) (l_o (o_call Tryz.call18 rfl (in_ret _ _ _ _) rfl ?_))))))))))))
    rintro _ w7 ⟨rfl, rfl⟩
    refine l_q (q_not rfl rfl) (l_nil (r_cond rfl (fun hc8 => ?_) (fun hc8 => ?_)))
    ·
     replace hc8 := b2f (nt hc8)
     refine r_seq (r_region' (l_q (qai rfl rfl) (l_nil (r_ret_ (vs := [.int _ _]) rfl Tryz.func7 rfl (.nil _) ⟨rfl, trivial⟩ ?_))))
     exact ⟨vint_eq (fault_bad (i := i) h6 (by omega) (.inl (letter_bad_len (by omega)))).symm, Ext.of_below hB⟩
    ·
     replace hc8 := b2t (nf hc8)
     refine r_skip (r_seq (r_seq (r_region' (l_q (qai rfl rfl) (l_nil (r_block (r_rounds (α := Nat) (fun k e wl => Knows e [(1, ptr b1 0), (3, vint (i : Int)), (4, vstr ((c).getD i [])), (5, vint (k : Int))] ∧ (k ≤ (c.getD i []).length) ∧ (∀ j, j < k → (c.getD i []).getD j 0 = 46 ∨ (c.getD i []).getD j 0 = 45) ∧ (Blk wl b1 [.slice a c.length cc]) ∧ (w.heap.size ≤ wl.heap.size) ∧ (Below w.heap.size w wl)) (fun k => (c.getD i []).length - k) 0 ?_ ?_)))))))
     ·
      exact ⟨⟨rfl, rfl, rfl, rfl, trivial⟩, (Nat.zero_le _), (fun i hi => absurd hi (Nat.not_lt_zero _)), hb1, hsz, hB⟩
     ·
      rintro k el9 wl9 ⟨hkn, hkk, hby, hb1, hsz, hB⟩ ih9
      obtain ⟨e9, rfl⟩ := knows_env hkn
      refine r_seq (r_seq (r_region' (l_q (qmi rfl rfl) (l_q (q_move (v := .string _) rfl rfl) (l_q (q_len_str rfl Tryz.underlying9 rfl rfl) (l_q (q_lss rfl rfl rfl) (l_nil (r_cond rfl (fun hc10 => ?_) (fun hc10 => ?_)))))))))
      ·
       replace hc10 := dt hc10
       refine r_skip (r_seq (r_block (r_seq (r_region' (l_q (q_move (v := .string _) rfl rfl) (l_q (qmi rfl rfl) (l_q (q_index_str (c := ((c).getD i []).getD k 0) Tryz.underlying9 rfl rfl (by omega) (getD_some (by omega)) rfl) (l_q (q_neq rfl rfl rfl) (l_q (qmb rfl rfl) (l_part 37 rfl (fun hc11 => ?_) (fun hc11 => ?_)))))))))))
       ·
        replace hc11 := df (nt hc11)
        refine l_q (q_move (v := .string _) rfl rfl) (l_q (qmi rfl rfl) (l_q (q_index_str (c := ((c).getD i []).getD k 0) Tryz.underlying9 rfl rfl (by omega) (getD_some (by omega)) rfl) (l_q (q_neq rfl rfl rfl) (l_q (q_pick_t (v := .bool _) rfl rfl rfl) (l_nil (r_forget [(1, .pointer _), (3, .int _ _), (4, .string _), (5, .int _ _), (42, .bool _)] ⟨rfl, rfl, rfl, rfl, rfl, trivial⟩ (fun e12 => (r_cond rfl (fun hc13 => ?_) (fun hc13 => ?_)))))))))
        ·
         replace hc13 := df (nt hc13)
         refine r_seq (r_region' (l_q (qai rfl rfl) (l_nil (r_ret_ (vs := [.int _ _]) rfl Tryz.func7 rfl (.nil _) ⟨rfl, trivial⟩ ?_))))
         exact ⟨vint_eq (fault_bad (i := i) h6 (by omega) (.inl (letter_bad_byte (k := k) (by omega) (u8_ne (by assumption)) (u8_ne (by assumption))))).symm, Ext.of_below hB⟩
        ·
         replace hc13 := dt (nf hc13)
         refine r_skip (r_inBlock (r_region' (l_q (qmi rfl rfl) (l_q (q_add rfl rfl (by omega) rfl) (l_q (qai rfl rfl) (l_nil ?_))))))
         exact ih9 (k + 1) _ _ ⟨⟨rfl, rfl, rfl, by first | rfl | exact vint_eq (by omega), trivial⟩, (by omega), (fun j hj => by rcases Nat.lt_succ_iff_lt_or_eq.1 hj with h | h; exact hby j h; subst h; first | exact u8_or (.inl (by assumption)) | exact u8_or (.inr (by assumption))), hb1, hsz, hB⟩ (by first | omega | (dsimp only; omega))
       ·
        replace hc11 := dt (nf hc11)
        refine l_q (q_skip rfl) (l_q (q_skip rfl) (l_q (q_skip rfl) (l_q (q_skip rfl) (l_q (q_pick_f (v := .bool _) rfl rfl rfl) (l_nil (r_forget [(1, .pointer _), (3, .int _ _), (4, .string _), (5, .int _ _), (42, .bool _)] ⟨rfl, rfl, rfl, rfl, rfl, trivial⟩ (fun e14 => (r_cond_f rfl (r_skip (r_inBlock (r_region' (l_q (qmi rfl rfl) (l_q (q_add rfl rfl (by omega) rfl) (l_q (qai rfl rfl) (l_nil ?_)))))))))))))))
        exact ih9 (k + 1) _ _ ⟨⟨rfl, rfl, rfl, by first | rfl | exact vint_eq (by omega), trivial⟩, (by omega), (fun j hj => by rcases Nat.lt_succ_iff_lt_or_eq.1 hj with h | h; exact hby j h; subst h; first | exact u8_or (.inl (by assumption)) | exact u8_or (.inr (by assumption))), hb1, hsz, hB⟩ (by first | omega | (dsimp only; omega))
      ·
       replace hc10 := dlt hc10
       have hkk : k = (c.getD i []).length := by omega
       subst hkk
       refine r_exit rfl (r_seq (r_region' (l_q (qai rfl rfl) (l_nil (r_block (r_rounds (α := Nat) (fun m e wl => Knows e [(1, ptr b1 0), (3, vint (i : Int)), (4, vstr ((c).getD i [])), (6, vint (m : Int))] ∧ (m ≤ i) ∧ (∀ j, j < m → c.getD j [] ≠ c.getD i []) ∧ (Blk wl b1 [.slice a c.length cc]) ∧ (w.heap.size ≤ wl.heap.size) ∧ (Below w.heap.size w wl)) (fun m => i - m) 0 ?_ ?_))))))
       ·
        exact ⟨⟨rfl, rfl, rfl, rfl, trivial⟩, (Nat.zero_le _), (fun i hi => absurd hi (Nat.not_lt_zero _)), hb1, hsz, hB⟩
       ·
        rintro m el15 wl15 ⟨hkn, hkm, hdi, hb1, hsz, hB⟩ ih15
        obtain ⟨e15, rfl⟩ := knows_env hkn
        refine r_seq (r_seq (r_region' (l_q (qmi rfl rfl) (l_q (qmi rfl rfl) (l_q (q_lss rfl rfl rfl) (l_nil (r_cond rfl (fun hc16 => ?_) (fun hc16 => ?_))))))))
        ·
         replace hc16 := dt hc16
         refine r_skip (r_seq (r_block (r_seq (r_region' (l_q (q_fieldAddr (o' := 0) rfl fld30_0 rfl) (l_q (q_load Tryz.isAgg28 rfl ((hb1.has (o := 0) rfl)) rfl) (l_q (qmi rfl rfl) ?_)))))))
         obtain ⟨b17, o17, ha17, hh17⟩ := (hrow.below hB).at1 m ((c).getD m []) (getD_some (by omega))
         refine l_q (q_indexAddr1 Tryz.underlying28 Tryz.sizeOf9 rfl ha17 rfl (by omega) rfl) (l_q (q_load Tryz.isAgg9 rfl (hh17) rfl) (l_q (q_move (v := .string _) rfl rfl) (l_q (q_eql_str rfl rfl rfl) (l_nil (r_cond rfl (fun hc18 => ?_) (fun hc18 => ?_))))))
         ·
          replace hc18 := dt hc18
          refine r_seq (r_region' (l_q (qai rfl rfl) (l_nil (r_forget [(2, .int _ _)] ⟨rfl, trivial⟩ (fun e19 => (r_ret_ (vs := [.int _ _]) rfl Tryz.func7 rfl (.nil _) ⟨rfl, trivial⟩ ?_))))))
          exact ⟨vint_eq (fault_bad (i := i) h6 (by omega) (.inr (distinct_bad (k := m) (by omega) (by omega) (by assumption)))).symm, Ext.of_below hB⟩
         ·
          replace hc18 := df hc18
          refine r_skip (r_inBlock (r_region' (l_q (qmi rfl rfl) (l_q (q_add rfl rfl (by omega) rfl) (l_q (qai rfl rfl) (l_nil (r_forget [(1, .pointer _), (3, .int _ _), (4, .string _), (6, .int _ _)] ⟨rfl, rfl, rfl, rfl, trivial⟩ (fun e20 => ?_))))))))
          exact ih15 (m + 1) _ _ ⟨⟨rfl, rfl, rfl, by first | rfl | exact vint_eq (by omega), trivial⟩, (by omega), (fun j hj => by rcases Nat.lt_succ_iff_lt_or_eq.1 hj with h | h; exact hdi j h; subst h; assumption), hb1, hsz, hB⟩ (by first | omega | (dsimp only; omega))
        ·
         replace hc16 := dlt hc16
         have hmm : i = m := by omega
         subst hmm
         refine r_exit rfl (r_inBlock (r_region' (l_q (qmi rfl rfl) (l_q (q_add rfl rfl (by omega) rfl) (l_q (qai rfl rfl) (l_nil ?_))))))
         exact ih3 (i + 1) _ _ ⟨⟨rfl, by first | rfl | exact vint_eq (by omega), trivial⟩, (by omega), h6, (fun j hj => by rcases Nat.lt_succ_iff_lt_or_eq.1 hj with h | h; exact hgood j h; subst h; exact ⟨letter_good (by omega) hby, distinct_good (by omega) hdi⟩), hb1, hsz, hB⟩ (by first | omega | (dsimp only; omega))
   ·
    replace hc4 := dlt hc4
    refine r_exit rfl (r_seq (r_seq (r_region' (l_q (q_fieldAddr (o' := 0) rfl fld30_0 rfl) (l_q (q_load Tryz.isAgg28 rfl ((hb1.has (o := 0) rfl)) rfl) (l_q (q_len rfl Tryz.underlying28 rfl rfl) (l_q (q_eql rfl rfl rfl) (l_nil (r_forget [(58, .bool _)] ⟨rfl, trivial⟩ (fun e21 => (r_cond rfl (fun hc22 => ?_) (fun hc22 => ?_))))))))))))
    ·
     replace hc22 := dt hc22
     refine r_seq (r_region' (l_q (qai rfl rfl) (l_nil (r_ret_ (vs := [.int _ _]) rfl Tryz.func7 rfl (.nil _) ⟨rfl, trivial⟩ ?_))))
     exact ⟨vint_eq (fault_empty (by omega)).symm, Ext.of_below hB⟩
    ·
     replace hc22 := df hc22
     refine r_skip (r_seq (r_region' (l_q (qai rfl rfl) (l_nil (r_ret_ (vs := [.int _ _]) rfl Tryz.func7 rfl (.nil _) ⟨rfl, trivial⟩ ?_)))))
     exact ⟨vint_eq (fault_good h6 (by omega) (fun j hj => hgood j (by omega))).symm, Ext.of_below hB⟩
end Go.Proofs.YtbikicakdkbcgacGreat
