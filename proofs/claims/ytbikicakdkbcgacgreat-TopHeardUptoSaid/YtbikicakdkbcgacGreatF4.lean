/- Contracts. -/
import Derived.Test.YtbikicakdkbcgacGreatF3
set_option linter.unusedVariables false
set_option linter.unusedSimpArgs false
namespace Go.Proofs.YtbikicakdkbcgacGreat
open Go Go.RowKit Go.Gv Go.Fl

theorem u8_eq {b n : UInt8} (h : (b.toNat : Int) = n.toNat) : b = n := UInt8.toNat_inj.1 (by exact_mod_cast h)
theorem all_getD {α : Type} {l : List α} {d : α} {p : α → Bool} (h : ∀ j, j < l.length → p (l.getD j d) = true) : l.all p = true := by
  rw [List.all_eq_true]
  intro x hx
  obtain ⟨i, hi, rfl⟩ := List.mem_iff_getElem.1 hx
  have := h i hi
  rwa [List.getD_eq_getElem?_getD, List.getElem?_eq_getElem hi] at this
theorem all_bad {α : Type} {l : List α} {d : α} {p : α → Bool} {k : Nat} (hk : k < l.length) (h : p (l.getD k d) = false) : l.all p = false := by
  rw [List.all_eq_false]
  exact ⟨_, getD_lt hk, by rw [h]; exact Bool.false_ne_true⟩
theorem isText_good {c : List Sg} {t : List Int} (h : ∀ j, j < t.length → (decide (0 ≤ t.getD j 0) && decide (t.getD j 0 ≤ (c.length : Int) - 1)) = true) : isText c t = true :=
  all_getD (d := 0) (p := fun n => decide (0 ≤ n) && decide (n ≤ (c.length : Int) - 1)) h
theorem isText_bad {c : List Sg} {t : List Int} {k : Nat} (hk : k < t.length) (h : (decide (0 ≤ t.getD k 0) && decide (t.getD k 0 ≤ (c.length : Int) - 1)) = false) : isText c t = false :=
  all_bad (d := 0) (p := fun n => decide (0 ≤ n) && decide (n ≤ (c.length : Int) - 1)) hk h
theorem isText_ret (a : Option Addr) (cc : Nat) (c : List Sg) (ta : Option Addr) (tc : Nat) (t : List Int) (w : World) (hrow : Row w a c.length cc 1 (c.map vstr)) (hcn : c.length ≤ 2097152) (ht : Row w ta t.length tc 1 (t.map vint)) (htn : t.length ≤ 2097152) : Ret Tryz.prog 8 [.agg ⟨[.slice a c.length cc]⟩, .slice ta t.length tc] w (fun v w' => v = .bool (isText c t) ∧ Ext w w') := by
 have hB := Below.refl w.heap.size w
 have hsz : w.heap.size ≤ w.heap.size := Nat.le_refl _
 refine ret_of_runs (args := [_, _]) Tryz.func8 rfl (Nat.le_of_ble_eq_true rfl) (by kernel_rfl) (r_seq (r_region' (l_o (o_box rfl rfl rfl ?_))))
 intro b1 w1 hzl1 hzr1 _ hb1 hE1
 have hbs_b1 : w.heap.size ≤ b1 := Nat.le_trans hsz hzl1
 replace hB := below_ext hB hE1 hsz
 replace hsz := Nat.le_trans hsz hE1.size
 refine l_q (qab rfl rfl) (l_nil (r_seq (r_seq (r_region' (l_q (qai rfl rfl) (l_nil (r_block (r_rounds (α := Nat) (fun k e wl => Knows e [(1, .slice ta t.length tc), (2, ptr b1 0), (5, vint (k : Int))] ∧ (k ≤ t.length) ∧ (∀ j, j < k → (decide (0 ≤ t.getD j 0) && decide (t.getD j 0 ≤ (c.length : Int) - 1)) = true) ∧ (Blk wl b1 [.slice a c.length cc]) ∧ (w.heap.size ≤ wl.heap.size) ∧ (Below w.heap.size w wl)) (fun k => t.length - k) 0 ?_ ?_))))))))
 ·
  exact ⟨⟨rfl, rfl, rfl, trivial⟩, (Nat.zero_le _), (fun i hi => absurd hi (Nat.not_lt_zero _)), hb1, hsz, hB⟩
 ·
  rintro k el2 wl2 ⟨hkn, hkk, hok, hb1, hsz, hB⟩ ih2
  obtain ⟨e2, rfl⟩ := knows_env hkn
  refine r_seq (r_seq (r_region' (l_q (qmi rfl rfl) (l_q (qms rfl rfl) (l_q (q_len rfl Tryz.underlying31 rfl rfl) (l_q (q_lss rfl rfl rfl) (l_nil (r_cond rfl (fun hc3 => ?_) (fun hc3 => ?_)))))))))
  ·
   replace hc3 := dt hc3
   refine r_skip (r_seq (r_block (r_seq (r_draw ext_refl' ext_trans' [0, 1, 2, 3, 4, 5, 6, 7, 8, 9] [8] 2 (by kernel_rfl) (by kernel_rfl) ?_))))
   intro w4 _ hE4
   replace hB := below_ext hB hE4 hsz
   replace hb1 := hb1.ext hE4
   replace hsz := Nat.le_trans hsz hE4.size
   refine m_q rfl rfl (fun w' hC' => qms rfl rfl) (m_q rfl rfl (fun w' hC' => qmi rfl rfl) ?_)
   obtain ⟨b5, o5, ha5, hh5⟩ := (ht.below hB).at1 k ((t).getD k 0) (getD_some (by omega))
   refine m_q rfl rfl (fun w' hC' => q_indexAddr1 Tryz.underlying31 Tryz.sizeOf3 rfl ha5 rfl (by omega) rfl) (m_q rfl rfl (fun w' hC' => q_load Tryz.isAgg3 rfl ((hh5.ext hC')) rfl) (m_q rfl rfl (fun w' hC' => q_fieldAddr (o' := 0) rfl fld30_0 rfl) (m_q rfl rfl (fun w' hC' => q_load Tryz.isAgg28 rfl (((hb1.has (o := 0) rfl).ext hC')) rfl) (m_q rfl rfl (fun w' hC' => q_len rfl Tryz.underlying28 rfl rfl) (m_q rfl rfl (fun w' hC' => q_sub rfl rfl (by omega) rfl) (m_o rfl rfl (o_call Tryz.call18 rfl (in_ret _ _ _ _) rfl ?_)))))))
   rintro _ w6 ⟨rfl, rfl⟩
   refine ⟨Ext.refl _, ?_⟩
   refine m_q rfl rfl (fun w' hC' => q_not rfl rfl) (m_nil (r_forget [(1, .slice _ _ _), (2, .pointer _), (5, .int _ _), (21, .bool _)] ⟨rfl, rfl, rfl, rfl, trivial⟩ (fun e7 => (r_cond rfl (fun hc8 => ?_) (fun hc8 => ?_)))))
   ·
    replace hc8 := b2f (nt hc8)
    refine r_seq (r_region' (l_q (qab rfl rfl) (l_nil (r_ret_ (vs := [.bool _]) rfl Tryz.func8 rfl (.nil _) ⟨rfl, trivial⟩ ?_))))
    exact ⟨vbool_eq (isText_bad (k := k) (by omega) (by rw [Bool.and_eq_false_iff]; simp only [decide_eq_false_iff_not]; omega)).symm, Ext.of_below hB⟩
   ·
    replace hc8 := b2t (nf hc8)
    refine r_skip (r_inBlock (r_region' (l_q (qmi rfl rfl) (l_q (q_add rfl rfl (by omega) rfl) (l_q (qai rfl rfl) (l_nil ?_))))))
    exact ih2 (k + 1) _ _ ⟨⟨rfl, rfl, by first | rfl | exact vint_eq (by omega), trivial⟩, (by omega), (fun j hj => by rcases Nat.lt_succ_iff_lt_or_eq.1 hj with h | h; exact hok j h; subst h; rw [Bool.and_eq_true]; exact ⟨decide_eq_true (by omega), decide_eq_true (by omega)⟩), hb1, hsz, hB⟩ (by first | omega | (dsimp only; omega))
  ·
   replace hc3 := dlt hc3
   refine r_exit rfl (r_seq (r_region' (l_q (qab rfl rfl) (l_nil (r_ret_ (vs := [.bool _]) rfl Tryz.func8 rfl (.nil _) ⟨rfl, trivial⟩ ?_)))))
   exact ⟨vbool_eq (isText_good (fun j hj => hok j (by omega))).symm, Ext.of_below hB⟩
end Go.Proofs.YtbikicakdkbcgacGreat
