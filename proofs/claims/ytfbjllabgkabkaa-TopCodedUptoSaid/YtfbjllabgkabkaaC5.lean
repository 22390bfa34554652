/- Contracts. -/
import Derived.Test.YtfbjllabgkabkaaC4
import Derived.Test.YtfbjllabgkabkaaGvO
set_option linter.unusedVariables false
set_option linter.unusedSimpArgs false
namespace Go.Proofs.Ytfbjllabgkabkaa
open Go Go.RowKit Go.Gv Go.Fl

theorem bk1_ok : BookOk 13 13 [⟨1, 0, 0⟩] [0] := by
  refine ⟨⟨by decide, by decide, by decide⟩, ⟨by simp, by decide⟩, ⟨by simp, by decide⟩, ?_, ?_⟩
  · intro k hk
    have := List.mem_singleton.1 hk
    subst this; decide
  · decide
theorem bk1_code : codeL 13 [⟨1, 0, 0⟩] [0] 0 [5] = [0, 5, 10] := by decide +kernel
theorem bk1_dec : decR 13 [⟨1, 0, 0⟩] [0] 0 [0, 6, 10] = (11, []) := by decide +kernel
theorem two_le : ∀ s ∈ ([[46], [45]] : List Sg), s.length ≤ 2097152 := by decide
theorem two_tx : txL [[46], [45]] [46, 46] 1 1 = [[1]] := by decide +kernel
theorem two_err : txErr [[46], [45]] [46, 46] 1 1 = 0 := by decide +kernel
theorem one_sv {L : List SV} (h : L.map (·.xs) = [[1]]) : L.length = 1 ∧ (L.getD 0 sv0).xs = [1] := by
  cases L with
  | nil => simp at h
  | cons s l =>
    simp at h
    obtain ⟨h1, h2⟩ := h
    subst h2
    exact ⟨rfl, h1⟩
theorem own_open {w : World} {base el c n : Nat} {a : Option Addr} {xs : List Value} (h : w.ownsRow base el 1 (.slice a n c) n xs) (hn : 0 < n) : ∃ g rest, a = some ⟨g, 0, none⟩ ∧ base ≤ g ∧ Blk w g (xs ++ rest) := by
  rcases h.2 with ⟨_, h0⟩ | ⟨g, cap', cur, h1, h2, h3, _, _, _, h7⟩
  · omega
  · injection h1 with h8 _ _
    refine ⟨g, cur.toList.drop (n * 1), h8, h2, ?_⟩
    rw [← h7, List.take_append_drop]
    exact ⟨_, h3⟩
theorem row_set {w : World} {g k c : Nat} {v : Int} {l : List Int} {rest : List Value} (hk : k < l.length) (hc : l.length ≤ c) (h : Blk w g (((([] ++ l : List Int)).map vint ++ rest).set (0 + k) (vint v))) : Row w (some ⟨g, 0, none⟩) (l.set k v).length c 1 ((l.set k v).map vint) := by
  rw [List.nil_append, Nat.zero_add, List.set_append_left _ _ (by rw [List.length_map]; exact hk), ← List.map_set] at h
  refine ⟨by simp, by rw [List.length_set]; exact hc, .inr ⟨g, 0, rfl, fun j u hj => ?_⟩⟩
  rw [Nat.zero_add]
  refine h.has ?_
  rw [List.getElem?_append_left (List.getElem?_eq_some_iff.1 hj).1]; exact hj
theorem set_in {S v : Int} {l : List Int} {k : Nat} (h : ∀ x ∈ l, inS S x = true) (hv : inS S v = true) : ∀ x ∈ l.set k v, inS S x = true := fun x hx => by
  rcases List.mem_or_eq_of_mem_set hx with h1 | h1
  · exact h x h1
  · subst h1; exact hv
theorem decide_iff {p q : Prop} [Decidable p] [Decidable q] (h : p ↔ q) : decide p = decide q := by
  by_cases hp : p
  · rw [decide_eq_true hp, decide_eq_true (h.1 hp)]
  · rw [decide_eq_false hp, decide_eq_false (fun hq => hp (h.2 hq))]
theorem opens_K3 {H : Type} {enc : TypeId × Value → H} {w : World} : Opens enc Try.prog w 53 K3.enc (fun _ _ => True) := fun fuel cs x h => by
  obtain ⟨v0, v1, v2, y0, y1, y2, n, rfl, _, h0, h1, h2⟩ := trod_three Try.underlying53 (by kernel_rfl) ⟨rfl, rfl, rfl⟩ ⟨by kernel_rfl, by kernel_rfl, by kernel_rfl⟩ h
  obtain ⟨a, rfl, _, _⟩ := open_num Try.underlying3 h0
  obtain ⟨b, rfl, _, _⟩ := open_num Try.underlying3 h1
  obtain ⟨c, rfl, _, _⟩ := open_num Try.underlying3 h2
  exact ⟨⟨a, b, c⟩, rfl, trivial⟩
theorem mem_getD {l : List Int} {x : Int} (h : x ∈ l) : ∃ j, j < l.length ∧ l.getD j 0 = x := by
  obtain ⟨i, hi, rfl⟩ := List.mem_iff_getElem.1 h
  exact ⟨i, hi, by rw [List.getD_eq_getElem?_getD, List.getElem?_eq_getElem hi]; rfl⟩


theorem same4_ret (xa : Option Addr) (xc : Nat) (xs : List Int) (ya : Option Addr) (yc : Nat) (ys : List Int) (w : World) (hx : Row w xa xs.length xc 1 (xs.map vint)) (hxn : xs.length ≤ 2097152) (hy : Row w ya ys.length yc 1 (ys.map vint)) (hyn : ys.length ≤ 2097152) : Ret Try.prog 14 [.slice xa xs.length xc, .slice ya ys.length yc] w (fun v w' => v = .bool (decide (xs = ys)) ∧ Ext w w') := by
  have hB := Below.refl w.heap.size w
  have hsz : w.heap.size ≤ w.heap.size := Nat.le_refl _
  refine ret_of_runs (args := [_, _]) Try.func14 rfl (Nat.le_of_ble_eq_true rfl) (by kernel_rfl) ?_
  refine r_seq ?_
  refine r_region' ?_
  refine l_q (q_assign (v := .bool _) rfl rfl) ?_
  refine l_nil ?_
  refine r_forget [(0, .slice _ _ _), (1, .slice _ _ _)] ⟨rfl, rfl, trivial⟩ (fun e1 => ?_)
  refine r_seq ?_
  refine r_seq ?_
  refine r_region' ?_
  refine l_q (q_move (v := .slice _ _ _) rfl rfl) ?_
  refine l_q (q_len rfl Try.underlying26 rfl rfl) ?_
  refine l_q (q_move (v := .slice _ _ _) rfl rfl) ?_
  refine l_q (q_len rfl Try.underlying26 rfl rfl) ?_
  refine l_q (q_neq rfl rfl rfl) ?_
  refine l_nil ?_
  refine r_forget [(0, .slice _ _ _), (1, .slice _ _ _), (10, .bool _)] ⟨rfl, rfl, rfl, trivial⟩ (fun e2 => ?_)
  refine r_cond rfl (fun hc3 => ?_) (fun hc3 => ?_)
  · skip
    try simp only [decide_eq_true_eq, decide_eq_false_iff_not, Bool.not_eq_true', Bool.not_eq_false', Bool.not_not, Bool.not_true, Bool.not_false, Bool.not_eq_true, Bool.not_eq_false, Int.not_lt, Int.not_le, Bool.and_eq_true, Bool.or_eq_true, Bool.and_eq_false_iff, Bool.or_eq_false_iff] at hc3
    refine r_seq ?_
    refine r_region' ?_
    refine l_q (q_assign (v := .bool _) rfl rfl) ?_
    refine l_nil ?_
    refine r_forget [(4, .bool _)] ⟨rfl, trivial⟩ (fun e4 => ?_)
    refine r_ret_ (vs := [.bool _]) rfl Try.func14 rfl (.nil _) ⟨rfl, trivial⟩ ?_
    exact ⟨vbool_eq (by symm; rw [decide_eq_false_iff_not]; intro h; subst h; omega), Ext.of_below hB⟩
  · skip
    try simp only [decide_eq_true_eq, decide_eq_false_iff_not, Bool.not_eq_true', Bool.not_eq_false', Bool.not_not, Bool.not_true, Bool.not_false, Bool.not_eq_true, Bool.not_eq_false, Int.not_lt, Int.not_le, Bool.and_eq_true, Bool.or_eq_true, Bool.and_eq_false_iff, Bool.or_eq_false_iff] at hc3
    refine r_skip ?_
    refine r_seq ?_
    refine r_seq ?_
    refine r_region' ?_
    refine l_q (q_assign (v := .int _ _) rfl rfl) ?_
    refine l_nil ?_
    refine r_forget [(0, .slice _ _ _), (1, .slice _ _ _), (5, .int _ _)] ⟨rfl, rfl, rfl, trivial⟩ (fun e5 => ?_)
    refine r_block ?_
    refine r_rounds (α := Nat) (fun k e wl => Knows e [(0, .slice xa xs.length xc), (1, .slice ya ys.length yc), (5, vint (k : Int))] ∧ (k ≤ xs.length) ∧ (∀ j, j < k → xs.getD j 0 = ys.getD j 0) ∧ (xs.length = ys.length) ∧ (w.heap.size ≤ wl.heap.size) ∧ (Below w.heap.size w wl)) (fun k => xs.length - k) 0 ?_ ?_
    · skip
      exact ⟨⟨rfl, rfl, rfl, trivial⟩, (Nat.zero_le _), (fun i hi => absurd hi (Nat.not_lt_zero _)), (by omega), hsz, hB⟩
    · skip
      rintro k el6 wl6 ⟨hkn, hkk, hq, hle, hsz, hB⟩ ih6
      obtain ⟨e6, rfl⟩ := knows_env hkn
      refine r_seq ?_
      refine r_seq ?_
      refine r_region' ?_
      refine l_q (q_move (v := .int _ _) rfl rfl) ?_
      refine l_q (q_move (v := .slice _ _ _) rfl rfl) ?_
      refine l_q (q_len rfl Try.underlying26 rfl rfl) ?_
      refine l_q (q_lss rfl rfl rfl) ?_
      refine l_nil ?_
      refine r_forget [(0, .slice _ _ _), (1, .slice _ _ _), (5, .int _ _), (14, .bool _)] ⟨rfl, rfl, rfl, rfl, trivial⟩ (fun e7 => ?_)
      refine r_cond rfl (fun hc8 => ?_) (fun hc8 => ?_)
      · skip
        try simp only [decide_eq_true_eq, decide_eq_false_iff_not, Bool.not_eq_true', Bool.not_eq_false', Bool.not_not, Bool.not_true, Bool.not_false, Bool.not_eq_true, Bool.not_eq_false, Int.not_lt, Int.not_le, Bool.and_eq_true, Bool.or_eq_true, Bool.and_eq_false_iff, Bool.or_eq_false_iff] at hc8
        refine r_skip ?_
        refine r_seq ?_
        refine r_block ?_
        refine r_seq ?_
        refine r_draw ext_refl' ext_trans' [0, 1, 2, 3, 4, 5, 6, 7, 8] [] 6 (by kernel_rfl) (by kernel_rfl) ?_
        intro w9 _ hE9
        replace hB := below_ext hB hE9 hsz
        replace hsz := Nat.le_trans hsz hE9.size
        refine m_q rfl rfl (fun w' hC' => q_move (v := .slice _ _ _) rfl rfl) ?_
        refine m_q rfl rfl (fun w' hC' => q_move (v := .int _ _) rfl rfl) ?_
        obtain ⟨b10, o10, ha10, hh10⟩ := (hx.below hB).at1 k ((xs).getD k 0) (getD_some (by omega))
        refine m_q rfl rfl (fun w' hC' => q_indexAddr1 Try.underlying26 Try.sizeOf3 rfl ha10 rfl (by omega) rfl) ?_
        refine m_q rfl rfl (fun w' hC' => q_load Try.isAgg3 rfl ((hh10.ext hC')) rfl) ?_
        refine m_q rfl rfl (fun w' hC' => q_move (v := .slice _ _ _) rfl rfl) ?_
        refine m_q rfl rfl (fun w' hC' => q_move (v := .int _ _) rfl rfl) ?_
        obtain ⟨b11, o11, ha11, hh11⟩ := (hy.below hB).at1 k ((ys).getD k 0) (getD_some (by omega))
        refine m_q rfl rfl (fun w' hC' => q_indexAddr1 Try.underlying26 Try.sizeOf3 rfl ha11 rfl (by omega) rfl) ?_
        refine m_q rfl rfl (fun w' hC' => q_load Try.isAgg3 rfl ((hh11.ext hC')) rfl) ?_
        refine m_q rfl rfl (fun w' hC' => q_neq rfl rfl rfl) ?_
        refine m_nil ?_
        refine r_forget [(0, .slice _ _ _), (1, .slice _ _ _), (5, .int _ _), (25, .bool _)] ⟨rfl, rfl, rfl, rfl, trivial⟩ (fun e12 => ?_)
        refine r_cond rfl (fun hc13 => ?_) (fun hc13 => ?_)
        · skip
          try simp only [decide_eq_true_eq, decide_eq_false_iff_not, Bool.not_eq_true', Bool.not_eq_false', Bool.not_not, Bool.not_true, Bool.not_false, Bool.not_eq_true, Bool.not_eq_false, Int.not_lt, Int.not_le, Bool.and_eq_true, Bool.or_eq_true, Bool.and_eq_false_iff, Bool.or_eq_false_iff] at hc13
          refine r_seq ?_
          refine r_region' ?_
          refine l_q (q_assign (v := .bool _) rfl rfl) ?_
          refine l_nil ?_
          refine r_forget [(4, .bool _)] ⟨rfl, trivial⟩ (fun e14 => ?_)
          refine r_ret_ (vs := [.bool _]) rfl Try.func14 rfl (.nil _) ⟨rfl, trivial⟩ ?_
          exact ⟨vbool_eq (by symm; rw [decide_eq_false_iff_not]; intro h; subst h; simp_all), Ext.of_below hB⟩
        · skip
          try simp only [decide_eq_true_eq, decide_eq_false_iff_not, Bool.not_eq_true', Bool.not_eq_false', Bool.not_not, Bool.not_true, Bool.not_false, Bool.not_eq_true, Bool.not_eq_false, Int.not_lt, Int.not_le, Bool.and_eq_true, Bool.or_eq_true, Bool.and_eq_false_iff, Bool.or_eq_false_iff] at hc13
          refine r_skip ?_
          refine r_inBlock ?_
          refine r_region' ?_
          refine l_q (q_move (v := .int _ _) rfl rfl) ?_
          refine l_q (q_add rfl rfl (by omega) rfl) ?_
          refine l_q (q_assign (v := .int _ _) rfl rfl) ?_
          refine l_nil ?_
          refine r_forget [(0, .slice _ _ _), (1, .slice _ _ _), (5, .int _ _)] ⟨rfl, rfl, rfl, trivial⟩ (fun e15 => ?_)
          exact ih6 (k + 1) _ _ ⟨⟨rfl, rfl, by first | rfl | exact vint_eq (by omega), trivial⟩, (by omega), (fun j hj => by rcases Nat.lt_succ_iff_lt_or_eq.1 hj with h | h; exact hq j h; subst h; assumption), (by omega), hsz, hB⟩ (by first | omega | (dsimp only; omega))
      · skip
        try simp only [decide_eq_true_eq, decide_eq_false_iff_not, Bool.not_eq_true', Bool.not_eq_false', Bool.not_not, Bool.not_true, Bool.not_false, Bool.not_eq_true, Bool.not_eq_false, Int.not_lt, Int.not_le, Bool.and_eq_true, Bool.or_eq_true, Bool.and_eq_false_iff, Bool.or_eq_false_iff] at hc8
        refine r_exit rfl ?_
        refine r_seq ?_
        refine r_region' ?_
        refine l_q (q_assign (v := .bool _) rfl rfl) ?_
        refine l_nil ?_
        refine r_forget [(4, .bool _)] ⟨rfl, trivial⟩ (fun e16 => ?_)
        refine r_ret_ (vs := [.bool _]) rfl Try.func14 rfl (.nil _) ⟨rfl, trivial⟩ ?_
        exact ⟨vbool_eq (by symm; rw [decide_eq_true_eq]; exact ext_getD hle (fun j hj => hq j (by omega))), Ext.of_below hB⟩
theorem coded_ret (w : World) : Ret Try.prog 9 [] w (fun v w' => v = .bool true ∧ Ext w w') := by
  have hB := Below.refl w.heap.size w
  have hsz : w.heap.size ≤ w.heap.size := Nat.le_refl _
  refine ret_of_runs (args := []) Try.func9 rfl (Nat.le_of_ble_eq_true rfl) (by kernel_rfl) ?_
  refine r_seq ?_
  refine r_region' ?_
  refine l_q (q_assign (v := .bool _) rfl rfl) ?_
  refine l_nil ?_
  refine r_forget [] trivial (fun e1 => ?_)
  refine r_seq ?_
  refine r_region' ?_
  refine l_q (q_build (v := .agg ⟨[vint 1, vint 0, vint 0]⟩) (fun w => by kernel_rfl) rfl) ?_
  refine l_o (o_buildSlice (el := 54) (cs := [vint 1, vint 0, vint 0]) Try.underlying39 el54 (by decide) (by kernel_rfl) rfl (by decide) rfl ?_)
  intro b2 w2 hzl2 hzr2 _ hb2 hE2 ho2
  have hbs_b2 : w.heap.size ≤ b2 := Nat.le_trans hsz hzl2
  replace hB := below_ext hB hE2 hsz
  replace hsz := Nat.le_trans hsz hE2.size
  refine l_o (o_buildSlice (el := 3) (cs := [vint 0]) Try.underlying26 el3 (by decide) (by kernel_rfl) rfl (by decide) rfl ?_)
  intro b3 w3 hzl3 hzr3 _ hb3 hE3 ho3
  have hno_ho2_b3 : ∀ g, (Value.slice (some ⟨b2, 0, none⟩) 1 1).ownBlock = some g → g ≠ b3 := fun g hg => by have := (ho2.lt g hg).2; omega
  have hbs_b3 : w.heap.size ≤ b3 := Nat.le_trans hsz hzl3
  replace hB := below_ext hB hE3 hsz
  replace ho2 := own_ext ho2 hE3
  replace hsz := Nat.le_trans hsz hE3.size
  refine l_q (q_build (v := .agg ⟨[vint 13, vint 13, .slice (some ⟨b2, 0, none⟩) 1 1, .slice (some ⟨b3, 0, none⟩) 1 1]⟩) (fun w => by kernel_rfl) rfl) ?_
  refine l_o (o_alloc Try.zeroValue41 rfl rfl ?_)
  intro b4 w4 hzl4 hzr4 _ hb4 hE4
  have hno_ho2_b4 : ∀ g, (Value.slice (some ⟨b2, 0, none⟩) 1 1).ownBlock = some g → g ≠ b4 := fun g hg => by have := (ho2.lt g hg).2; omega
  have hno_ho3_b4 : ∀ g, (Value.slice (some ⟨b3, 0, none⟩) 1 1).ownBlock = some g → g ≠ b4 := fun g hg => by have := (ho3.lt g hg).2; omega
  have hbs_b4 : w.heap.size ≤ b4 := Nat.le_trans hsz hzl4
  replace hB := below_ext hB hE4 hsz
  replace ho2 := own_ext ho2 hE4
  replace ho3 := own_ext ho3 hE4
  replace hsz := Nat.le_trans hsz hE4.size
  refine l_o (o_store (vs := [vint 13, vint 13, .slice (some ⟨b2, 0, none⟩) 1 1, .slice (some ⟨b3, 0, none⟩) 1 1]) (cs' := [vint 13, vint 13, .slice (some ⟨b2, 0, none⟩) 1 1, .slice (some ⟨b3, 0, none⟩) 1 1]) Try.sizeOf41 rfl rfl rfl rfl hb4 (Nat.le_of_ble_eq_true rfl) rfl rfl ?_)
  intro w5 hz5 hb4 hG5
  replace hB := below_upd hB hG5 hsz (by omega)
  replace hsz : w.heap.size ≤ w5.heap.size := by rw [hz5]; exact hsz
  replace ho2 := own_updne ho2 hG5 (by first | assumption | (intro g hg; have := (ho2.lt g hg).1; omega))
  replace ho3 := own_updne ho3 hG5 (by first | assumption | (intro g hg; have := (ho3.lt g hg).1; omega))
  refine l_nil ?_
  refine r_forget [(1, .pointer _)] ⟨rfl, trivial⟩ (fun e6 => ?_)
  refine r_seq ?_
  refine r_region' ?_
  refine l_q (q_load_agg (n := 4) Try.isAgg41 Try.sizeOf41 rfl ((hb4.cells' (cs' := [_, _, _, _]) 0 4 rfl)) rfl rfl) ?_
  have hbl_b4 := hb4.lt
  refine l_o (o_buildSlice (el := 3) (cs := [vint 5]) Try.underlying26 el3 (by decide) (by kernel_rfl) rfl (by decide) rfl ?_)
  intro b7 w7 hzl7 hzr7 _ hb7 hE7 ho7
  have hne_b4_b7 : b4 ≠ b7 := by have := hb4.lt; omega
  have hno_ho2_b7 : ∀ g, (Value.slice (some ⟨b2, 0, none⟩) 1 1).ownBlock = some g → g ≠ b7 := fun g hg => by have := (ho2.lt g hg).2; omega
  have hno_ho3_b7 : ∀ g, (Value.slice (some ⟨b3, 0, none⟩) 1 1).ownBlock = some g → g ≠ b7 := fun g hg => by have := (ho3.lt g hg).2; omega
  have hbs_b7 : w.heap.size ≤ b7 := Nat.le_trans hsz hzl7
  replace hB := below_ext hB hE7 hsz
  replace ho2 := own_ext ho2 hE7
  replace ho3 := own_ext ho3 hE7
  replace hb4 := hb4.ext hE7
  replace hsz := Nat.le_trans hsz hE7.size
  have hbl_b4 := hb4.lt
  refine l_o (o_call Try.call10 rfl (ccode_ret 13 13 _ _ _ _ [⟨1, 0, 0⟩] [0] 0 _ _ [5] _ (Row.of_owns ho2) (Row.of_owns ho3) bk1_ok (by decide) (Row.of_owns ho7) (by decide) (by decide) (by decide)) rfl ?_)
  rintro _ w8 ⟨ra8, rc8, rfl, hrc8, hE8⟩
  replace hrc8 := own_mono hrc8 (show w.heap.size ≤ _ by omega)
  replace hB := below_ext hB hE8 hsz
  replace ho2 := own_ext ho2 hE8
  replace ho3 := own_ext ho3 hE8
  replace hb4 := hb4.ext hE8
  replace ho7 := own_ext ho7 hE8
  replace hsz := Nat.le_trans hsz hE8.size
  refine l_q (q_move (v := .tuple _) rfl rfl) ?_
  refine l_q (q_extract (vs := [_, _]) (v := .slice _ _ _) rfl rfl rfl) ?_
  refine l_q (q_extract (vs := [_, _]) (v := .int _ _) rfl rfl rfl) ?_
  refine l_q (q_assign (v := .slice _ _ _) rfl rfl) ?_
  refine l_q (q_assign (v := .int _ _) rfl rfl) ?_
  refine l_nil ?_
  refine r_forget [(1, .pointer _), (2, .slice _ _ _), (3, .int _ _)] ⟨rfl, rfl, rfl, trivial⟩ (fun e9 => ?_)
  refine r_seq ?_
  refine r_region' ?_
  refine l_q (q_load_agg (n := 4) Try.isAgg41 Try.sizeOf41 rfl ((hb4.cells' (cs' := [_, _, _, _]) 0 4 rfl)) rfl rfl) ?_
  have hbl_b4 := hb4.lt
  refine l_o (o_buildSlice (el := 3) (cs := [vint 0, vint 6, vint 10]) Try.underlying26 el3 (by decide) (by kernel_rfl) rfl (by decide) rfl ?_)
  intro b10 w10 hzl10 hzr10 _ hb10 hE10 ho10
  have hne_b4_b10 : b4 ≠ b10 := by have := hb4.lt; omega
  have hno_ho2_b10 : ∀ g, (Value.slice (some ⟨b2, 0, none⟩) 1 1).ownBlock = some g → g ≠ b10 := fun g hg => by have := (ho2.lt g hg).2; omega
  have hno_ho3_b10 : ∀ g, (Value.slice (some ⟨b3, 0, none⟩) 1 1).ownBlock = some g → g ≠ b10 := fun g hg => by have := (ho3.lt g hg).2; omega
  have hno_ho7_b10 : ∀ g, (Value.slice (some ⟨b7, 0, none⟩) 1 1).ownBlock = some g → g ≠ b10 := fun g hg => by have := (ho7.lt g hg).2; omega
  have hno_hrc8_b10 : ∀ g, (Value.slice ra8 (((codeL 13 [⟨1, 0, 0⟩] [0] 0 [5])).length) rc8).ownBlock = some g → g ≠ b10 := fun g hg => by have := (hrc8.lt g hg).2; omega
  have hbs_b10 : w.heap.size ≤ b10 := Nat.le_trans hsz hzl10
  replace hB := below_ext hB hE10 hsz
  replace ho2 := own_ext ho2 hE10
  replace ho3 := own_ext ho3 hE10
  replace hb4 := hb4.ext hE10
  replace ho7 := own_ext ho7 hE10
  replace hrc8 := own_ext hrc8 hE10
  replace hsz := Nat.le_trans hsz hE10.size
  have hbl_b4 := hb4.lt
  refine l_o (o_call Try.call13 rfl (decode_ret 13 13 _ _ _ _ [⟨1, 0, 0⟩] [0] 0 _ _ [0, 6, 10] _ (Row.of_owns ho2) (Row.of_owns ho3) bk1_ok (by decide) (Row.of_owns ho10) (by decide) (by decide) (by decide)) rfl ?_)
  rintro _ w11 ⟨pa11, pc11, wa11, wn11, wc11, e11, p11, rfl, hrp11, hdr, hE11⟩
  replace hB := below_ext hB hE11 hsz
  replace ho2 := own_ext ho2 hE11
  replace ho3 := own_ext ho3 hE11
  replace hb4 := hb4.ext hE11
  replace ho7 := own_ext ho7 hE11
  replace hrc8 := own_ext hrc8 hE11
  replace ho10 := own_ext ho10 hE11
  replace hsz := Nat.le_trans hsz hE11.size
  have hdr := hdr.symm.trans bk1_dec
  injection hdr with hdr1 hdr2
  refine l_q (q_move (v := .tuple _) rfl rfl) ?_
  refine l_q (q_extract (vs := [_, _, _]) (v := .slice _ _ _) rfl rfl rfl) ?_
  refine l_q (q_extract (vs := [_, _, _]) (v := .slice _ _ _) rfl rfl rfl) ?_
  refine l_q (q_extract (vs := [_, _, _]) (v := .int _ _) rfl rfl rfl) ?_
  refine l_q (q_assign (v := .slice _ _ _) rfl rfl) ?_
  refine l_q (q_assign (v := .slice _ _ _) rfl rfl) ?_
  refine l_q (q_assign (v := .int _ _) rfl rfl) ?_
  refine l_nil ?_
  refine r_forget [(2, .slice _ _ _), (3, .int _ _), (6, .int _ _)] ⟨rfl, rfl, rfl, trivial⟩ (fun e12 => ?_)
  refine r_seq ?_
  refine r_region' ?_
  have hbl_b4 := hb4.lt
  refine l_o (o_buildSlice (el := 9) (cs := [vstr [46], vstr [45]]) Try.underlying22 el9 (by decide) (by kernel_rfl) rfl (by decide) rfl ?_)
  intro b13 w13 hzl13 hzr13 _ hb13 hE13 ho13
  have hne_b4_b13 : b4 ≠ b13 := by have := hb4.lt; omega
  have hno_ho2_b13 : ∀ g, (Value.slice (some ⟨b2, 0, none⟩) 1 1).ownBlock = some g → g ≠ b13 := fun g hg => by have := (ho2.lt g hg).2; omega
  have hno_ho3_b13 : ∀ g, (Value.slice (some ⟨b3, 0, none⟩) 1 1).ownBlock = some g → g ≠ b13 := fun g hg => by have := (ho3.lt g hg).2; omega
  have hno_ho7_b13 : ∀ g, (Value.slice (some ⟨b7, 0, none⟩) 1 1).ownBlock = some g → g ≠ b13 := fun g hg => by have := (ho7.lt g hg).2; omega
  have hno_hrc8_b13 : ∀ g, (Value.slice ra8 (((codeL 13 [⟨1, 0, 0⟩] [0] 0 [5])).length) rc8).ownBlock = some g → g ≠ b13 := fun g hg => by have := (hrc8.lt g hg).2; omega
  have hno_ho10_b13 : ∀ g, (Value.slice (some ⟨b10, 0, none⟩) 3 3).ownBlock = some g → g ≠ b13 := fun g hg => by have := (ho10.lt g hg).2; omega
  have hbs_b13 : w.heap.size ≤ b13 := Nat.le_trans hsz hzl13
  replace hB := below_ext hB hE13 hsz
  replace ho2 := own_ext ho2 hE13
  replace ho3 := own_ext ho3 hE13
  replace hb4 := hb4.ext hE13
  replace ho7 := own_ext ho7 hE13
  replace hrc8 := own_ext hrc8 hE13
  replace ho10 := own_ext ho10 hE13
  replace hrp11 := hrp11.ext hE13
  replace hsz := Nat.le_trans hsz hE13.size
  refine l_q (q_build (v := .agg ⟨[.slice (some ⟨b13, 0, none⟩) 2 2]⟩) (fun w => by kernel_rfl) rfl) ?_
  have hbl_b4 := hb4.lt
  refine l_o (o_call Try.call19 rfl (texts2_ret _ _ [[46], [45]] [46, 46] 1 1 _ (Row.of_owns ho13) (by decide) two_le (by decide)) rfl ?_)
  have hszp14 : w.heap.size ≤ w13.heap.size := hsz
  rintro _ w14 ⟨oa14, oc14, L14, rfl, ho14, hos14, hm14, hE14⟩
  replace ho14 := own_mono ho14 (show w.heap.size ≤ _ by omega)
  replace hB := below_ext hB hE14 hsz
  replace ho2 := own_ext ho2 hE14
  replace ho3 := own_ext ho3 hE14
  replace hb4 := hb4.ext hE14
  replace ho7 := own_ext ho7 hE14
  replace hrc8 := own_ext hrc8 hE14
  replace ho10 := own_ext ho10 hE14
  replace hrp11 := hrp11.ext hE14
  replace ho13 := own_ext ho13 hE14
  replace hsz := Nat.le_trans hsz hE14.size
  have hmt := (hm14).trans two_tx
  obtain ⟨htl, htx⟩ := one_sv hmt
  refine l_q (q_move (v := .tuple _) rfl rfl) ?_
  refine l_q (q_extract (vs := [_, _]) (v := .slice _ _ _) rfl rfl rfl) ?_
  refine l_q (q_extract (vs := [_, _]) (v := .int _ _) rfl rfl rfl) ?_
  refine l_q (q_assign (v := .slice _ _ _) rfl rfl) ?_
  refine l_q (q_assign (v := .int _ _) rfl rfl) ?_
  refine l_nil ?_
  refine r_forget [(2, .slice _ _ _), (3, .int _ _), (6, .int _ _), (7, .slice _ _ _), (8, .int _ _)] ⟨rfl, rfl, rfl, rfl, rfl, trivial⟩ (fun e15 => ?_)
  refine r_seq ?_
  refine r_region' ?_
  refine l_q (q_move (v := .int _ _) rfl rfl) ?_
  refine l_q (q_eql rfl rfl rfl) ?_
  refine l_q (q_move (v := .bool _) rfl rfl) ?_
  have hk16 : (decide (0 = 0)) = true := by decide
  refine l_part 34 rfl (fun _ => ?_) (fun hx => absurd (hk16.symm.trans hx) (by decide))
  refine l_q (q_move (v := .slice _ _ _) rfl rfl) ?_
  have hbl_b4 := hb4.lt
  refine l_o (o_buildSlice (el := 3) (cs := [vint 0, vint 5, vint 10]) Try.underlying26 el3 (by decide) (by kernel_rfl) rfl (by decide) rfl ?_)
  intro b17 w17 hzl17 hzr17 _ hb17 hE17 ho17
  have hne_b4_b17 : b4 ≠ b17 := by have := hb4.lt; omega
  have hno_ho2_b17 : ∀ g, (Value.slice (some ⟨b2, 0, none⟩) 1 1).ownBlock = some g → g ≠ b17 := fun g hg => by have := (ho2.lt g hg).2; omega
  have hno_ho3_b17 : ∀ g, (Value.slice (some ⟨b3, 0, none⟩) 1 1).ownBlock = some g → g ≠ b17 := fun g hg => by have := (ho3.lt g hg).2; omega
  have hno_ho7_b17 : ∀ g, (Value.slice (some ⟨b7, 0, none⟩) 1 1).ownBlock = some g → g ≠ b17 := fun g hg => by have := (ho7.lt g hg).2; omega
  have hno_hrc8_b17 : ∀ g, (Value.slice ra8 (((codeL 13 [⟨1, 0, 0⟩] [0] 0 [5])).length) rc8).ownBlock = some g → g ≠ b17 := fun g hg => by have := (hrc8.lt g hg).2; omega
  have hno_ho10_b17 : ∀ g, (Value.slice (some ⟨b10, 0, none⟩) 3 3).ownBlock = some g → g ≠ b17 := fun g hg => by have := (ho10.lt g hg).2; omega
  have hno_ho13_b17 : ∀ g, (Value.slice (some ⟨b13, 0, none⟩) 2 2).ownBlock = some g → g ≠ b17 := fun g hg => by have := (ho13.lt g hg).2; omega
  have hno_ho14_b17 : ∀ g, (Value.slice oa14 ((L14).length) oc14).ownBlock = some g → g ≠ b17 := fun g hg => by have := (ho14.lt g hg).2; omega
  have hbs_b17 : w.heap.size ≤ b17 := Nat.le_trans hsz hzl17
  replace hB := below_ext hB hE17 hsz
  replace ho2 := own_ext ho2 hE17
  replace ho3 := own_ext ho3 hE17
  replace hb4 := hb4.ext hE17
  replace ho7 := own_ext ho7 hE17
  replace hrc8 := own_ext hrc8 hE17
  replace ho10 := own_ext ho10 hE17
  replace hrp11 := hrp11.ext hE17
  replace ho13 := own_ext ho13 hE17
  replace ho14 := own_ext ho14 hE17
  replace hos14 := hos14.ext hE17
  replace hsz := Nat.le_trans hsz hE17.size
  have hbl_b4 := hb4.lt
  refine l_o (o_call Try.call14 rfl (same4_ret _ _ (codeL 13 [⟨1, 0, 0⟩] [0] 0 [5]) _ _ [0, 5, 10] _ (Row.of_owns hrc8) (by rw [bk1_code]; decide) (Row.of_owns ho17) (by decide)) rfl ?_)
  rintro _ w18 ⟨rfl, hE18⟩
  replace hB := below_ext hB hE18 hsz
  replace ho2 := own_ext ho2 hE18
  replace ho3 := own_ext ho3 hE18
  replace hb4 := hb4.ext hE18
  replace ho7 := own_ext ho7 hE18
  replace hrc8 := own_ext hrc8 hE18
  replace ho10 := own_ext ho10 hE18
  replace hrp11 := hrp11.ext hE18
  replace ho13 := own_ext ho13 hE18
  replace ho14 := own_ext ho14 hE18
  replace hos14 := hos14.ext hE18
  replace ho17 := own_ext ho17 hE18
  replace hsz := Nat.le_trans hsz hE18.size
  refine l_q (q_pick_t (v := .bool _) rfl rfl rfl) ?_
  refine l_q (q_move (v := .bool _) rfl rfl) ?_
  have hk19 : (decide ((codeL 13 [⟨1, 0, 0⟩] [0] 0 [5]) = [0, 5, 10])) = true := by rw [bk1_code]; decide
  refine l_part 39 rfl (fun _ => ?_) (fun hx => absurd (hk19.symm.trans hx) (by decide))
  refine l_q (q_move (v := .int _ _) rfl rfl) ?_
  refine l_q (q_eql rfl rfl rfl) ?_
  refine l_q (q_pick_t (v := .bool _) rfl rfl rfl) ?_
  refine l_q (q_move (v := .bool _) rfl rfl) ?_
  have hk20 : (decide (e11 = 11)) = true := by rw [hdr1]; decide
  refine l_part 43 rfl (fun _ => ?_) (fun hx => absurd (hk20.symm.trans hx) (by decide))
  refine l_q (q_move (v := .int _ _) rfl rfl) ?_
  refine l_q (q_eql rfl rfl rfl) ?_
  refine l_q (q_pick_t (v := .bool _) rfl rfl rfl) ?_
  refine l_q (q_move (v := .bool _) rfl rfl) ?_
  have hk21 : (decide ((txErr [[46], [45]] [46, 46] 1 1) = 0)) = true := by rw [two_err]; decide
  refine l_part 47 rfl (fun _ => ?_) (fun hx => absurd (hk21.symm.trans hx) (by decide))
  refine l_q (q_move (v := .slice _ _ _) rfl rfl) ?_
  have hbl_b4 := hb4.lt
  refine l_q (q_len rfl Try.underlying55 rfl rfl) ?_
  refine l_q (q_eql rfl rfl rfl) ?_
  refine l_q (q_pick_t (v := .bool _) rfl rfl rfl) ?_
  refine l_q (q_move (v := .bool _) rfl rfl) ?_
  have hk22 : (decide (((L14).length : Int) = 1)) = true := by rw [htl]; decide
  refine l_part 52 rfl (fun _ => ?_) (fun hx => absurd (hk22.symm.trans hx) (by decide))
  refine l_q (q_move (v := .slice _ _ _) rfl rfl) ?_
  have hr24 := hos14.rows.get (i := 0) (by omega)
  obtain ⟨b23, o23, ha23, hh23⟩ := (Row.of_owns ho14).at1 0 ((L14).getD 0 sv0) (getD_some (by omega))
  refine l_q (q_indexAddr1 Try.underlying55 Try.sizeOf26 rfl ha23 rfl (by omega) rfl) ?_
  refine l_q (q_load Try.isAgg26 rfl (hh23) rfl) ?_
  have hbl_b4 := hb4.lt
  refine l_q (q_len rfl Try.underlying26 rfl rfl) ?_
  refine l_q (q_eql rfl rfl rfl) ?_
  refine l_q (q_pick_t (v := .bool _) rfl rfl rfl) ?_
  refine l_q (q_move (v := .bool _) rfl rfl) ?_
  have hk25 : (decide ((((L14).getD 0 sv0).xs.length : Int) = 1)) = true := by rw [htx]; decide
  refine l_part 59 rfl (fun _ => ?_) (fun hx => absurd (hk25.symm.trans hx) (by decide))
  refine l_q (q_move (v := .slice _ _ _) rfl rfl) ?_
  have hr27 := hos14.rows.get (i := 0) (by omega)
  obtain ⟨b26, o26, ha26, hh26⟩ := (Row.of_owns ho14).at1 0 ((L14).getD 0 sv0) (getD_some (by omega))
  refine l_q (q_indexAddr1 Try.underlying55 Try.sizeOf26 rfl ha26 rfl (by omega) rfl) ?_
  refine l_q (q_load Try.isAgg26 rfl (hh26) rfl) ?_
  obtain ⟨b28, o28, ha28, hh28⟩ := hr27.at1 0 ((((L14).getD 0 sv0).xs).getD 0 0) (getD_some (by rw [htx]; decide))
  refine l_q (q_indexAddr1 Try.underlying26 Try.sizeOf3 rfl ha28 rfl (by rw [htx]; decide) rfl) ?_
  refine l_q (q_load Try.isAgg3 rfl (hh28) rfl) ?_
  refine l_q (q_eql rfl rfl rfl) ?_
  refine l_q (q_pick_t (v := .bool _) rfl rfl rfl) ?_
  refine l_q (q_assign (v := .bool _) rfl rfl) ?_
  refine l_nil ?_
  refine r_forget [(0, .bool _)] ⟨rfl, trivial⟩ (fun e29 => ?_)
  refine r_ret_ (vs := [.bool _]) rfl Try.func9 rfl (.nil _) ⟨rfl, trivial⟩ ?_
  exact ⟨vbool_eq (by rw [htx]; rfl), Ext.of_below hB⟩
theorem topCoded_ret (a : Option Addr) (cc : Nat) (c : List Sg) (S W : Int) (ka : Option Addr) (kc : Nat) (da : Option Addr) (dc : Nat) (ks : List K3) (ds : List Int) (xa : Option Addr) (xc : Nat) (xs : List Int) (wa : Option Addr) (wc : Nat) (ws : List Int) (which day er : Int) (w : World) (hrow : Row w a c.length cc 1 (c.map vstr)) (hcn : c.length ≤ 2097152) (hka : Row w ka ks.length kc 3 (ks.flatMap K3.enc)) (hda : Row w da ds.length dc 1 (ds.map vint)) (hkn : ks.length ≤ 2097152) (hdn : ds.length ≤ 2097152) (hx : Row w xa xs.length xc 1 (xs.map vint)) (hxn : xs.length ≤ 2097152) (hw : Row w wa ws.length wc 1 (ws.map (Value.int .u16))) (hwn : ws.length ≤ 2097152) (hwr : ∀ x ∈ ws, 0 ≤ x ∧ x ≤ 65535) (hwh : 0 ≤ which ∧ which ≤ 255) (hda2 : 0 ≤ day ∧ day ≤ 255) (her : 0 ≤ er ∧ er ≤ 255) : Ret Try.prog 3 [.agg ⟨[.slice a c.length cc]⟩, .agg ⟨[vint S, vint W, .slice ka ks.length kc, .slice da ds.length dc]⟩, .slice xa xs.length xc, .slice wa ws.length wc, .int .u8 which, .int .u8 day, .int .u8 er] w (fun v w' => v = .bool true ∧ Ext w w') := by
  have hB := Below.refl w.heap.size w
  have hsz : w.heap.size ≤ w.heap.size := Nat.le_refl _
  refine ret_of_runs (args := [_, _, _, _, _, _, _]) Try.func3 rfl (Nat.le_of_ble_eq_true rfl) (by kernel_rfl) ?_
  refine r_seq ?_
  refine r_region' ?_
  refine l_o (o_box rfl rfl rfl ?_)
  intro b1 w1 hzl1 hzr1 _ hb1 hE1
  have hbs_b1 : w.heap.size ≤ b1 := Nat.le_trans hsz hzl1
  replace hB := below_ext hB hE1 hsz
  replace hsz := Nat.le_trans hsz hE1.size
  refine l_o (o_box rfl rfl rfl ?_)
  intro b2 w2 hzl2 hzr2 _ hb2 hE2
  have hne_b1_b2 : b1 ≠ b2 := by have := hb1.lt; omega
  have hbs_b2 : w.heap.size ≤ b2 := Nat.le_trans hsz hzl2
  replace hB := below_ext hB hE2 hsz
  replace hb1 := hb1.ext hE2
  replace hsz := Nat.le_trans hsz hE2.size
  refine l_q (q_assign (v := .bool _) rfl rfl) ?_
  refine l_nil ?_
  refine r_forget [(2, .slice _ _ _), (3, .slice _ _ _), (4, .int _ _), (5, .int _ _), (6, .int _ _), (7, .pointer _), (8, .pointer _)] ⟨rfl, rfl, rfl, rfl, rfl, rfl, rfl, trivial⟩ (fun e3 => ?_)
  refine r_seq ?_
  refine r_seq ?_
  refine r_region' ?_
  refine l_q (q_load_agg (n := 1) Try.isAgg24 Try.sizeOf24 rfl ((hb1.cells' (cs' := [_]) 0 1 rfl)) rfl rfl) ?_
  refine l_o (o_call Try.call4 rfl (thin_ret _ _ _ _ _ (hrow.below hB) (by omega) (by first | omega | simp)) rfl ?_)
  rintro _ w4 ⟨rfl, hE4⟩
  replace hB := below_ext hB hE4 hsz
  replace hb1 := hb1.ext hE4
  replace hb2 := hb2.ext hE4
  replace hsz := Nat.le_trans hsz hE4.size
  refine l_q (q_not rfl rfl) ?_
  refine l_q (q_move (v := .bool _) rfl rfl) ?_
  refine l_part 30 rfl (fun hc5 => ?_) (fun hc5 => ?_)
  · skip
    try simp only [decide_eq_true_eq, decide_eq_false_iff_not, Bool.not_eq_true', Bool.not_eq_false', Bool.not_not, Bool.not_true, Bool.not_false, Bool.not_eq_true, Bool.not_eq_false, Int.not_lt, Int.not_le, Bool.and_eq_true, Bool.or_eq_true, Bool.and_eq_false_iff, Bool.or_eq_false_iff] at hc5
    refine l_q (q_skip rfl) ?_
    refine l_q (q_skip rfl) ?_
    refine l_q (q_skip rfl) ?_
    refine l_q (q_pick_t (v := .bool _) rfl rfl rfl) ?_
    refine l_q (q_move (v := .bool _) rfl rfl) ?_
    refine l_q (q_skip rfl) ?_
    refine l_q (q_skip rfl) ?_
    refine l_q (q_skip rfl) ?_
    refine l_q (q_pick_t (v := .bool _) rfl rfl rfl) ?_
    refine l_q (q_move (v := .bool _) rfl rfl) ?_
    refine l_q (q_skip rfl) ?_
    refine l_q (q_skip rfl) ?_
    refine l_q (q_skip rfl) ?_
    refine l_q (q_pick_t (v := .bool _) rfl rfl rfl) ?_
    refine l_q (q_move (v := .bool _) rfl rfl) ?_
    refine l_q (q_skip rfl) ?_
    refine l_q (q_skip rfl) ?_
    refine l_q (q_skip rfl) ?_
    refine l_q (q_pick_t (v := .bool _) rfl rfl rfl) ?_
    refine l_q (q_move (v := .bool _) rfl rfl) ?_
    refine l_q (q_skip rfl) ?_
    refine l_q (q_skip rfl) ?_
    refine l_q (q_skip rfl) ?_
    refine l_q (q_skip rfl) ?_
    refine l_q (q_pick_t (v := .bool _) rfl rfl rfl) ?_
    refine l_q (q_move (v := .bool _) rfl rfl) ?_
    refine l_q (q_skip rfl) ?_
    refine l_q (q_skip rfl) ?_
    refine l_q (q_skip rfl) ?_
    refine l_q (q_skip rfl) ?_
    refine l_q (q_pick_t (v := .bool _) rfl rfl rfl) ?_
    refine l_nil ?_
    refine r_forget [(2, .slice _ _ _), (3, .slice _ _ _), (4, .int _ _), (5, .int _ _), (6, .int _ _), (7, .pointer _), (8, .pointer _), (61, .bool _)] ⟨rfl, rfl, rfl, rfl, rfl, rfl, rfl, rfl, trivial⟩ (fun e6 => ?_)
    refine r_cond_t rfl ?_
    refine r_seq ?_
    refine r_region' ?_
    refine l_o (o_call Try.call9 rfl (coded_ret _) rfl ?_)
    rintro _ w7 ⟨rfl, hE7⟩
    replace hB := below_ext hB hE7 hsz
    replace hb1 := hb1.ext hE7
    replace hb2 := hb2.ext hE7
    replace hsz := Nat.le_trans hsz hE7.size
    refine l_q (q_assign (v := .bool _) rfl rfl) ?_
    refine l_nil ?_
    refine r_forget [(14, .bool _)] ⟨rfl, trivial⟩ (fun e8 => ?_)
    refine r_ret_ (vs := [.bool _]) rfl Try.func3 rfl (.nil _) ⟨rfl, trivial⟩ ?_
    exact ⟨rfl, Ext.of_below hB⟩
  · skip
    try simp only [decide_eq_true_eq, decide_eq_false_iff_not, Bool.not_eq_true', Bool.not_eq_false', Bool.not_not, Bool.not_true, Bool.not_false, Bool.not_eq_true, Bool.not_eq_false, Int.not_lt, Int.not_le, Bool.and_eq_true, Bool.or_eq_true, Bool.and_eq_false_iff, Bool.or_eq_false_iff] at hc5
    refine l_q (q_load_agg (n := 1) Try.isAgg24 Try.sizeOf24 rfl ((hb1.cells' (cs' := [_]) 0 1 rfl)) rfl rfl) ?_
    refine l_o (o_call Try.call5 rfl (fault_ret _ _ _ _ (hrow.below hB) (by omega)) rfl ?_)
    rintro _ w9 ⟨rfl, hE9⟩
    replace hB := below_ext hB hE9 hsz
    replace hb1 := hb1.ext hE9
    replace hb2 := hb2.ext hE9
    replace hsz := Nat.le_trans hsz hE9.size
    refine l_q (q_neq rfl rfl rfl) ?_
    refine l_q (q_pick_f (v := .bool _) rfl rfl rfl) ?_
    refine l_q (q_move (v := .bool _) rfl rfl) ?_
    refine l_part 35 rfl (fun hc10 => ?_) (fun hc10 => ?_)
    · skip
      try simp only [decide_eq_true_eq, decide_eq_false_iff_not, Bool.not_eq_true', Bool.not_eq_false', Bool.not_not, Bool.not_true, Bool.not_false, Bool.not_eq_true, Bool.not_eq_false, Int.not_lt, Int.not_le, Bool.and_eq_true, Bool.or_eq_true, Bool.and_eq_false_iff, Bool.or_eq_false_iff] at hc10
      refine l_q (q_skip rfl) ?_
      refine l_q (q_skip rfl) ?_
      refine l_q (q_skip rfl) ?_
      refine l_q (q_pick_t (v := .bool _) rfl rfl rfl) ?_
      refine l_q (q_move (v := .bool _) rfl rfl) ?_
      refine l_q (q_skip rfl) ?_
      refine l_q (q_skip rfl) ?_
      refine l_q (q_skip rfl) ?_
      refine l_q (q_pick_t (v := .bool _) rfl rfl rfl) ?_
      refine l_q (q_move (v := .bool _) rfl rfl) ?_
      refine l_q (q_skip rfl) ?_
      refine l_q (q_skip rfl) ?_
      refine l_q (q_skip rfl) ?_
      refine l_q (q_pick_t (v := .bool _) rfl rfl rfl) ?_
      refine l_q (q_move (v := .bool _) rfl rfl) ?_
      refine l_q (q_skip rfl) ?_
      refine l_q (q_skip rfl) ?_
      refine l_q (q_skip rfl) ?_
      refine l_q (q_skip rfl) ?_
      refine l_q (q_pick_t (v := .bool _) rfl rfl rfl) ?_
      refine l_q (q_move (v := .bool _) rfl rfl) ?_
      refine l_q (q_skip rfl) ?_
      refine l_q (q_skip rfl) ?_
      refine l_q (q_skip rfl) ?_
      refine l_q (q_skip rfl) ?_
      refine l_q (q_pick_t (v := .bool _) rfl rfl rfl) ?_
      refine l_nil ?_
      refine r_forget [(2, .slice _ _ _), (3, .slice _ _ _), (4, .int _ _), (5, .int _ _), (6, .int _ _), (7, .pointer _), (8, .pointer _), (61, .bool _)] ⟨rfl, rfl, rfl, rfl, rfl, rfl, rfl, rfl, trivial⟩ (fun e11 => ?_)
      refine r_cond_t rfl ?_
      refine r_seq ?_
      refine r_region' ?_
      refine l_o (o_call Try.call9 rfl (coded_ret _) rfl ?_)
      rintro _ w12 ⟨rfl, hE12⟩
      replace hB := below_ext hB hE12 hsz
      replace hb1 := hb1.ext hE12
      replace hb2 := hb2.ext hE12
      replace hsz := Nat.le_trans hsz hE12.size
      refine l_q (q_assign (v := .bool _) rfl rfl) ?_
      refine l_nil ?_
      refine r_forget [(14, .bool _)] ⟨rfl, trivial⟩ (fun e13 => ?_)
      refine r_ret_ (vs := [.bool _]) rfl Try.func3 rfl (.nil _) ⟨rfl, trivial⟩ ?_
      exact ⟨rfl, Ext.of_below hB⟩
    · skip
      try simp only [decide_eq_true_eq, decide_eq_false_iff_not, Bool.not_eq_true', Bool.not_eq_false', Bool.not_not, Bool.not_true, Bool.not_false, Bool.not_eq_true, Bool.not_eq_false, Int.not_lt, Int.not_le, Bool.and_eq_true, Bool.or_eq_true, Bool.and_eq_false_iff, Bool.or_eq_false_iff] at hc10
      have hfc : fault c = 0 := by simpa using hc10
      refine l_q (q_load_agg (n := 4) Try.isAgg28 Try.sizeOf28 rfl ((hb2.cells' (cs' := [_, _, _, _]) 0 4 rfl)) rfl rfl) ?_
      refine l_o (o_call Try.call6 rfl (thin4_ret _ _ _ _ _ _ _ _ _ (by omega) (by omega)) rfl ?_)
      rintro _ w14 ⟨rfl, hE14⟩
      replace hB := below_ext hB hE14 hsz
      replace hb1 := hb1.ext hE14
      replace hb2 := hb2.ext hE14
      replace hsz := Nat.le_trans hsz hE14.size
      refine l_q (q_not rfl rfl) ?_
      refine l_q (q_pick_f (v := .bool _) rfl rfl rfl) ?_
      refine l_q (q_move (v := .bool _) rfl rfl) ?_
      refine l_part 40 rfl (fun hc15 => ?_) (fun hc15 => ?_)
      · skip
        try simp only [decide_eq_true_eq, decide_eq_false_iff_not, Bool.not_eq_true', Bool.not_eq_false', Bool.not_not, Bool.not_true, Bool.not_false, Bool.not_eq_true, Bool.not_eq_false, Int.not_lt, Int.not_le, Bool.and_eq_true, Bool.or_eq_true, Bool.and_eq_false_iff, Bool.or_eq_false_iff] at hc15
        refine l_q (q_skip rfl) ?_
        refine l_q (q_skip rfl) ?_
        refine l_q (q_skip rfl) ?_
        refine l_q (q_pick_t (v := .bool _) rfl rfl rfl) ?_
        refine l_q (q_move (v := .bool _) rfl rfl) ?_
        refine l_q (q_skip rfl) ?_
        refine l_q (q_skip rfl) ?_
        refine l_q (q_skip rfl) ?_
        refine l_q (q_pick_t (v := .bool _) rfl rfl rfl) ?_
        refine l_q (q_move (v := .bool _) rfl rfl) ?_
        refine l_q (q_skip rfl) ?_
        refine l_q (q_skip rfl) ?_
        refine l_q (q_skip rfl) ?_
        refine l_q (q_skip rfl) ?_
        refine l_q (q_pick_t (v := .bool _) rfl rfl rfl) ?_
        refine l_q (q_move (v := .bool _) rfl rfl) ?_
        refine l_q (q_skip rfl) ?_
        refine l_q (q_skip rfl) ?_
        refine l_q (q_skip rfl) ?_
        refine l_q (q_skip rfl) ?_
        refine l_q (q_pick_t (v := .bool _) rfl rfl rfl) ?_
        refine l_nil ?_
        refine r_forget [(2, .slice _ _ _), (3, .slice _ _ _), (4, .int _ _), (5, .int _ _), (6, .int _ _), (7, .pointer _), (8, .pointer _), (61, .bool _)] ⟨rfl, rfl, rfl, rfl, rfl, rfl, rfl, rfl, trivial⟩ (fun e16 => ?_)
        refine r_cond_t rfl ?_
        refine r_seq ?_
        refine r_region' ?_
        refine l_o (o_call Try.call9 rfl (coded_ret _) rfl ?_)
        rintro _ w17 ⟨rfl, hE17⟩
        replace hB := below_ext hB hE17 hsz
        replace hb1 := hb1.ext hE17
        replace hb2 := hb2.ext hE17
        replace hsz := Nat.le_trans hsz hE17.size
        refine l_q (q_assign (v := .bool _) rfl rfl) ?_
        refine l_nil ?_
        refine r_forget [(14, .bool _)] ⟨rfl, trivial⟩ (fun e18 => ?_)
        refine r_ret_ (vs := [.bool _]) rfl Try.func3 rfl (.nil _) ⟨rfl, trivial⟩ ?_
        exact ⟨rfl, Ext.of_below hB⟩
      · skip
        try simp only [decide_eq_true_eq, decide_eq_false_iff_not, Bool.not_eq_true', Bool.not_eq_false', Bool.not_not, Bool.not_true, Bool.not_false, Bool.not_eq_true, Bool.not_eq_false, Int.not_lt, Int.not_le, Bool.and_eq_true, Bool.or_eq_true, Bool.and_eq_false_iff, Bool.or_eq_false_iff] at hc15
        refine l_q (q_load_agg (n := 4) Try.isAgg28 Try.sizeOf28 rfl ((hb2.cells' (cs' := [_, _, _, _]) 0 4 rfl)) rfl rfl) ?_
        refine l_o (o_call Try.call7 rfl (fault4_ret _ _ _ _ _ _ ks ds _ (hka.below hB) (hda.below hB) (by omega) (by omega)) rfl ?_)
        rintro _ w19 ⟨nf, rfl, hfok, hE19⟩
        replace hB := below_ext hB hE19 hsz
        replace hb1 := hb1.ext hE19
        replace hb2 := hb2.ext hE19
        replace hsz := Nat.le_trans hsz hE19.size
        refine l_q (q_neq rfl rfl rfl) ?_
        refine l_q (q_pick_f (v := .bool _) rfl rfl rfl) ?_
        refine l_q (q_move (v := .bool _) rfl rfl) ?_
        refine l_part 45 rfl (fun hc20 => ?_) (fun hc20 => ?_)
        · skip
          try simp only [decide_eq_true_eq, decide_eq_false_iff_not, Bool.not_eq_true', Bool.not_eq_false', Bool.not_not, Bool.not_true, Bool.not_false, Bool.not_eq_true, Bool.not_eq_false, Int.not_lt, Int.not_le, Bool.and_eq_true, Bool.or_eq_true, Bool.and_eq_false_iff, Bool.or_eq_false_iff] at hc20
          refine l_q (q_skip rfl) ?_
          refine l_q (q_skip rfl) ?_
          refine l_q (q_skip rfl) ?_
          refine l_q (q_pick_t (v := .bool _) rfl rfl rfl) ?_
          refine l_q (q_move (v := .bool _) rfl rfl) ?_
          refine l_q (q_skip rfl) ?_
          refine l_q (q_skip rfl) ?_
          refine l_q (q_skip rfl) ?_
          refine l_q (q_skip rfl) ?_
          refine l_q (q_pick_t (v := .bool _) rfl rfl rfl) ?_
          refine l_q (q_move (v := .bool _) rfl rfl) ?_
          refine l_q (q_skip rfl) ?_
          refine l_q (q_skip rfl) ?_
          refine l_q (q_skip rfl) ?_
          refine l_q (q_skip rfl) ?_
          refine l_q (q_pick_t (v := .bool _) rfl rfl rfl) ?_
          refine l_nil ?_
          refine r_forget [(2, .slice _ _ _), (3, .slice _ _ _), (4, .int _ _), (5, .int _ _), (6, .int _ _), (7, .pointer _), (8, .pointer _), (61, .bool _)] ⟨rfl, rfl, rfl, rfl, rfl, rfl, rfl, rfl, trivial⟩ (fun e21 => ?_)
          refine r_cond_t rfl ?_
          refine r_seq ?_
          refine r_region' ?_
          refine l_o (o_call Try.call9 rfl (coded_ret _) rfl ?_)
          rintro _ w22 ⟨rfl, hE22⟩
          replace hB := below_ext hB hE22 hsz
          replace hb1 := hb1.ext hE22
          replace hb2 := hb2.ext hE22
          replace hsz := Nat.le_trans hsz hE22.size
          refine l_q (q_assign (v := .bool _) rfl rfl) ?_
          refine l_nil ?_
          refine r_forget [(14, .bool _)] ⟨rfl, trivial⟩ (fun e23 => ?_)
          refine r_ret_ (vs := [.bool _]) rfl Try.func3 rfl (.nil _) ⟨rfl, trivial⟩ ?_
          exact ⟨rfl, Ext.of_below hB⟩
        · skip
          try simp only [decide_eq_true_eq, decide_eq_false_iff_not, Bool.not_eq_true', Bool.not_eq_false', Bool.not_not, Bool.not_true, Bool.not_false, Bool.not_eq_true, Bool.not_eq_false, Int.not_lt, Int.not_le, Bool.and_eq_true, Bool.or_eq_true, Bool.and_eq_false_iff, Bool.or_eq_false_iff] at hc20
          have hok := hfok (by simpa using hc20)
          have hok0 := hok
          obtain ⟨⟨hPS, hW1, hW2⟩, ⟨hk0, hk5⟩, ⟨hd0, hd8⟩, hkk, hdd⟩ := hok0
          have hSr := prS hPS
          have hkl := List.length_pos_iff.2 hk0
          have hdl := List.length_pos_iff.2 hd0
          refine l_q (q_move (v := .slice _ _ _) rfl rfl) ?_
          refine l_q (q_len rfl Try.underlying26 rfl rfl) ?_
          refine l_q (q_gtr rfl rfl rfl) ?_
          refine l_q (q_pick_f (v := .bool _) rfl rfl rfl) ?_
          refine l_q (q_move (v := .bool _) rfl rfl) ?_
          refine l_part 50 rfl (fun hc24 => ?_) (fun hc24 => ?_)
          · skip
            try simp only [decide_eq_true_eq, decide_eq_false_iff_not, Bool.not_eq_true', Bool.not_eq_false', Bool.not_not, Bool.not_true, Bool.not_false, Bool.not_eq_true, Bool.not_eq_false, Int.not_lt, Int.not_le, Bool.and_eq_true, Bool.or_eq_true, Bool.and_eq_false_iff, Bool.or_eq_false_iff] at hc24
            refine l_q (q_skip rfl) ?_
            refine l_q (q_skip rfl) ?_
            refine l_q (q_skip rfl) ?_
            refine l_q (q_skip rfl) ?_
            refine l_q (q_pick_t (v := .bool _) rfl rfl rfl) ?_
            refine l_q (q_move (v := .bool _) rfl rfl) ?_
            refine l_q (q_skip rfl) ?_
            refine l_q (q_skip rfl) ?_
            refine l_q (q_skip rfl) ?_
            refine l_q (q_skip rfl) ?_
            refine l_q (q_pick_t (v := .bool _) rfl rfl rfl) ?_
            refine l_nil ?_
            refine r_forget [(2, .slice _ _ _), (3, .slice _ _ _), (4, .int _ _), (5, .int _ _), (6, .int _ _), (7, .pointer _), (8, .pointer _), (61, .bool _)] ⟨rfl, rfl, rfl, rfl, rfl, rfl, rfl, rfl, trivial⟩ (fun e25 => ?_)
            refine r_cond_t rfl ?_
            refine r_seq ?_
            refine r_region' ?_
            refine l_o (o_call Try.call9 rfl (coded_ret _) rfl ?_)
            rintro _ w26 ⟨rfl, hE26⟩
            replace hB := below_ext hB hE26 hsz
            replace hb1 := hb1.ext hE26
            replace hb2 := hb2.ext hE26
            replace hsz := Nat.le_trans hsz hE26.size
            refine l_q (q_assign (v := .bool _) rfl rfl) ?_
            refine l_nil ?_
            refine r_forget [(14, .bool _)] ⟨rfl, trivial⟩ (fun e27 => ?_)
            refine r_ret_ (vs := [.bool _]) rfl Try.func3 rfl (.nil _) ⟨rfl, trivial⟩ ?_
            exact ⟨rfl, Ext.of_below hB⟩
          · skip
            try simp only [decide_eq_true_eq, decide_eq_false_iff_not, Bool.not_eq_true', Bool.not_eq_false', Bool.not_not, Bool.not_true, Bool.not_false, Bool.not_eq_true, Bool.not_eq_false, Int.not_lt, Int.not_le, Bool.and_eq_true, Bool.or_eq_true, Bool.and_eq_false_iff, Bool.or_eq_false_iff] at hc24
            have hx10 : xs.length ≤ 10 := by omega
            refine l_q (q_load_agg (n := 4) Try.isAgg28 Try.sizeOf28 rfl ((hb2.cells' (cs' := [_, _, _, _]) 0 4 rfl)) rfl rfl) ?_
            refine l_q (q_move (v := .slice _ _ _) rfl rfl) ?_
            refine l_o (o_call Try.call8 rfl (rplain_ret _ _ _ _ _ _ _ _ _ _ xs _ (by omega) (hx.below hB) (by omega)) rfl ?_)
            rintro _ w28 ⟨rfl, hE28⟩
            replace hB := below_ext hB hE28 hsz
            replace hb1 := hb1.ext hE28
            replace hb2 := hb2.ext hE28
            replace hsz := Nat.le_trans hsz hE28.size
            refine l_q (q_not rfl rfl) ?_
            refine l_q (q_pick_f (v := .bool _) rfl rfl rfl) ?_
            refine l_q (q_move (v := .bool _) rfl rfl) ?_
            refine l_part 56 rfl (fun hc29 => ?_) (fun hc29 => ?_)
            · skip
              try simp only [decide_eq_true_eq, decide_eq_false_iff_not, Bool.not_eq_true', Bool.not_eq_false', Bool.not_not, Bool.not_true, Bool.not_false, Bool.not_eq_true, Bool.not_eq_false, Int.not_lt, Int.not_le, Bool.and_eq_true, Bool.or_eq_true, Bool.and_eq_false_iff, Bool.or_eq_false_iff] at hc29
              refine l_q (q_skip rfl) ?_
              refine l_q (q_skip rfl) ?_
              refine l_q (q_skip rfl) ?_
              refine l_q (q_skip rfl) ?_
              refine l_q (q_pick_t (v := .bool _) rfl rfl rfl) ?_
              refine l_nil ?_
              refine r_forget [(2, .slice _ _ _), (3, .slice _ _ _), (4, .int _ _), (5, .int _ _), (6, .int _ _), (7, .pointer _), (8, .pointer _), (61, .bool _)] ⟨rfl, rfl, rfl, rfl, rfl, rfl, rfl, rfl, trivial⟩ (fun e30 => ?_)
              refine r_cond_t rfl ?_
              refine r_seq ?_
              refine r_region' ?_
              refine l_o (o_call Try.call9 rfl (coded_ret _) rfl ?_)
              rintro _ w31 ⟨rfl, hE31⟩
              replace hB := below_ext hB hE31 hsz
              replace hb1 := hb1.ext hE31
              replace hb2 := hb2.ext hE31
              replace hsz := Nat.le_trans hsz hE31.size
              refine l_q (q_assign (v := .bool _) rfl rfl) ?_
              refine l_nil ?_
              refine r_forget [(14, .bool _)] ⟨rfl, trivial⟩ (fun e32 => ?_)
              refine r_ret_ (vs := [.bool _]) rfl Try.func3 rfl (.nil _) ⟨rfl, trivial⟩ ?_
              exact ⟨rfl, Ext.of_below hB⟩
            · skip
              try simp only [decide_eq_true_eq, decide_eq_false_iff_not, Bool.not_eq_true', Bool.not_eq_false', Bool.not_not, Bool.not_true, Bool.not_false, Bool.not_eq_true, Bool.not_eq_false, Int.not_lt, Int.not_le, Bool.and_eq_true, Bool.or_eq_true, Bool.and_eq_false_iff, Bool.or_eq_false_iff] at hc29
              have hxs : ∀ x ∈ xs, inS S x = true := List.all_eq_true.1 (by simpa using hc29)
              refine l_q (q_fieldAddr (o' := 0) rfl fld24_0 rfl) ?_
              refine l_q (q_load Try.isAgg22 rfl ((hb1.has (o := 0) rfl)) rfl) ?_
              refine l_q (q_len rfl Try.underlying22 rfl rfl) ?_
              refine l_q (q_lss rfl rfl rfl) ?_
              refine l_q (q_pick_f (v := .bool _) rfl rfl rfl) ?_
              refine l_nil ?_
              refine r_forget [(2, .slice _ _ _), (3, .slice _ _ _), (4, .int _ _), (5, .int _ _), (6, .int _ _), (7, .pointer _), (8, .pointer _), (61, .bool _)] ⟨rfl, rfl, rfl, rfl, rfl, rfl, rfl, rfl, trivial⟩ (fun e33 => ?_)
              refine r_cond rfl (fun hc34 => ?_) (fun hc34 => ?_)
              · skip
                try simp only [decide_eq_true_eq, decide_eq_false_iff_not, Bool.not_eq_true', Bool.not_eq_false', Bool.not_not, Bool.not_true, Bool.not_false, Bool.not_eq_true, Bool.not_eq_false, Int.not_lt, Int.not_le, Bool.and_eq_true, Bool.or_eq_true, Bool.and_eq_false_iff, Bool.or_eq_false_iff] at hc34
                refine r_seq ?_
                refine r_region' ?_
                refine l_o (o_call Try.call9 rfl (coded_ret _) rfl ?_)
                rintro _ w35 ⟨rfl, hE35⟩
                replace hB := below_ext hB hE35 hsz
                replace hb1 := hb1.ext hE35
                replace hb2 := hb2.ext hE35
                replace hsz := Nat.le_trans hsz hE35.size
                refine l_q (q_assign (v := .bool _) rfl rfl) ?_
                refine l_nil ?_
                refine r_forget [(14, .bool _)] ⟨rfl, trivial⟩ (fun e36 => ?_)
                refine r_ret_ (vs := [.bool _]) rfl Try.func3 rfl (.nil _) ⟨rfl, trivial⟩ ?_
                exact ⟨rfl, Ext.of_below hB⟩
              · skip
                try simp only [decide_eq_true_eq, decide_eq_false_iff_not, Bool.not_eq_true', Bool.not_eq_false', Bool.not_not, Bool.not_true, Bool.not_false, Bool.not_eq_true, Bool.not_eq_false, Int.not_lt, Int.not_le, Bool.and_eq_true, Bool.or_eq_true, Bool.and_eq_false_iff, Bool.or_eq_false_iff] at hc34
                have hc3 : 3 ≤ c.length := by omega
                have hcin := codeL_in (S := S) (ks := ks) (ds := ds) (d := (day % (ds.length : Int)).toNat) (xs := xs) hSr hkl hk5
                refine r_skip ?_
                refine r_seq ?_
                refine r_region' ?_
                refine l_q (q_move (v := .int _ _) rfl rfl) ?_
                refine l_q (q_toInt Try.underlying5 Try.underlying3 rfl (by omega) rfl) ?_
                refine l_q (q_fieldAddr (o' := 3) rfl fld28_3 rfl) ?_
                refine l_q (q_load Try.isAgg26 rfl ((hb2.has (o := 3) rfl)) rfl) ?_
                refine l_q (q_len rfl Try.underlying26 rfl rfl) ?_
                refine l_q (q_rem rfl rfl (⟨by omega, by omega⟩) rfl) ?_
                refine l_q (q_assign (v := .int _ _) rfl rfl) ?_
                refine l_nil ?_
                refine r_forget [(2, .slice _ _ _), (3, .slice _ _ _), (4, .int _ _), (6, .int _ _), (7, .pointer _), (8, .pointer _), (15, .int _ _)] ⟨rfl, rfl, rfl, rfl, rfl, rfl, rfl, trivial⟩ (fun e37 => ?_)
                refine r_seq ?_
                obtain ⟨d, hde⟩ : ∃ d : Nat, day % (ds.length : Int) = d := ⟨_, (Int.toNat_of_nonneg (Int.emod_nonneg _ (by omega))).symm⟩
                have hd : d < ds.length := by have := Int.emod_lt_of_pos day (show (0 : Int) < ds.length by omega); omega
                rw [hde, Int.toNat_natCast] at hcin
                have hky := hkk _ (key_mem hdd hd)
                refine r_forget [(2, .slice _ _ _), (3, .slice _ _ _), (4, .int _ _), (6, .int _ _), (7, .pointer _), (8, .pointer _), (15, vint (d : Int))] ⟨rfl, rfl, rfl, rfl, rfl, rfl, vint_eq hde, trivial⟩ (fun e38 => ?_)
                refine r_region' ?_
                refine l_q (q_load_agg (n := 4) Try.isAgg28 Try.sizeOf28 rfl ((hb2.cells' (cs' := [_, _, _, _]) 0 4 rfl)) rfl rfl) ?_
                refine l_o (o_call Try.call11 rfl (lbook_ret _ _ _ _ _ _ ks ds _ (hka.below hB) (hda.below hB) (by omega) (by omega)) rfl ?_)
                rintro _ w39 ⟨ka39, kc39, da39, dc39, rfl, hrk39, hrd39, hE39⟩
                replace hB := below_ext hB hE39 hsz
                replace hb1 := hb1.ext hE39
                replace hb2 := hb2.ext hE39
                replace hsz := Nat.le_trans hsz hE39.size
                refine l_q (q_move (v := .int _ _) rfl rfl) ?_
                have hBE := Below.refl w39.heap.size w39
                have hsz_hBE : w.heap.size ≤ w39.heap.size := hsz
                have hlt_hBE_b1 := hb1.lt
                have hlt_hBE_b2 := hb2.lt
                have hbl_b1 := (hb1.ext (Ext.of_below hBE)).lt
                have hbl_b2 := (hb2.ext (Ext.of_below hBE)).lt
                have hszf40 := hBE.size
                refine l_o (o_buildSlice (el := 3) (cs := []) Try.underlying26 el3 (by decide) (by kernel_rfl) rfl (by decide) rfl ?_)
                intro b41 w41 hzl41 hzr41 _ hb41 hE41 ho41
                have hne_b1_b41 : b1 ≠ b41 := by have := (hb1.ext (Ext.of_below hBE)).lt; omega
                have hne_b2_b41 : b2 ≠ b41 := by have := (hb2.ext (Ext.of_below hBE)).lt; omega
                have hbs_b41 : w.heap.size ≤ b41 := Nat.le_trans hsz hzl41
                replace hB := below_ext hB hE41 hsz
                replace hBE := below_ext hBE hE41 hBE.size
                replace hsz := Nat.le_trans hsz hE41.size
                replace ho41 := own_mono ho41 (show w39.heap.size ≤ _ by omega)
                refine l_q (q_move (v := .slice _ _ _) rfl rfl) ?_
                have hbl_b1 := (hb1.ext (Ext.of_below hBE)).lt
                have hbl_b2 := (hb2.ext (Ext.of_below hBE)).lt
                have hszf42 := hBE.size
                refine l_o (o_append_map (f := vint) ([]) (xs) Try.underlying26 el3 rfl rfl ho41 rfl (hx.below hB) (fun _ => rfl) (by (try simp only [List.length_append, List.length_cons, List.length_nil, List.length_take, List.length_drop, List.length_replicate]); omega) (by omega) rfl ?_)
                intro a43 c43 w43 hz43 ho43 hG43
                replace hB := below_own hB hG43 ho41 (by omega) hsz
                replace hsz := Nat.le_trans hsz hG43.size
                replace hBE := below_own hBE hG43 ho41 (by first | exact Nat.le_refl _ | omega) hBE.size
                have hbl_b1 := (hb1.ext (Ext.of_below hBE)).lt
                have hbl_b2 := (hb2.ext (Ext.of_below hBE)).lt
                have hszf44 := hBE.size
                refine l_o (o_call Try.call10 rfl (ccode_ret _ _ _ _ _ _ ks ds d _ _ xs _ (hrk39.ext (Ext.of_below hBE)) (hrd39.ext (Ext.of_below hBE)) hok hd (Row.of_owns ho43) (by omega) hx10 hxs) rfl ?_)
                rintro _ w45 ⟨ra45, rc45, rfl, hrc45, hE45⟩
                replace hrc45 := own_mono hrc45 (show w39.heap.size ≤ _ by omega)
                replace hB := below_ext hB hE45 hsz
                replace hBE := below_ext hBE hE45 hBE.size
                replace ho43 := own_ext ho43 hE45
                replace hsz := Nat.le_trans hsz hE45.size
                have hcl := codeL_len (S := S) (ks := ks) (ds := ds) (d := d) (xs := xs)
                refine l_q (q_move (v := .tuple _) rfl rfl) ?_
                refine l_q (q_extract (vs := [_, _]) (v := .slice _ _ _) rfl rfl rfl) ?_
                refine l_q (q_extract (vs := [_, _]) (v := .int _ _) rfl rfl rfl) ?_
                refine l_q (q_assign (v := .slice _ _ _) rfl rfl) ?_
                refine l_q (q_assign (v := .int _ _) rfl rfl) ?_
                refine l_nil ?_
                refine r_forget [(2, .slice _ _ _), (3, .slice _ _ _), (4, .int _ _), (6, .int _ _), (7, .pointer _), (8, .pointer _), (15, .int _ _), (16, .slice _ _ _), (17, .int _ _)] ⟨rfl, rfl, rfl, rfl, rfl, rfl, rfl, rfl, rfl, trivial⟩ (fun e46 => ?_)
                refine r_seq ?_
                refine r_seq ?_
                refine r_region' ?_
                refine l_q (q_move (v := .int _ _) rfl rfl) ?_
                refine l_q (q_neq rfl rfl rfl) ?_
                refine l_q (q_move (v := .bool _) rfl rfl) ?_
                have hk47 : (!decide (0 = 0)) = false := by decide
                refine l_part 81 rfl (fun hx => absurd (hk47.symm.trans hx) (by decide)) (fun _ => ?_)
                refine l_q (q_move (v := .slice _ _ _) rfl rfl) ?_
                have hbl_b1 := (hb1.ext (Ext.of_below hBE)).lt
                have hbl_b2 := (hb2.ext (Ext.of_below hBE)).lt
                have hszf48 := hBE.size
                refine l_q (q_len rfl Try.underlying26 rfl rfl) ?_
                refine l_q (q_move (v := .slice _ _ _) rfl rfl) ?_
                have hbl_b1 := (hb1.ext (Ext.of_below hBE)).lt
                have hbl_b2 := (hb2.ext (Ext.of_below hBE)).lt
                have hszf49 := hBE.size
                refine l_q (q_len rfl Try.underlying26 rfl rfl) ?_
                refine l_q (q_add rfl rfl (by omega) rfl) ?_
                refine l_q (q_neq rfl rfl rfl) ?_
                refine l_q (q_pick_f (v := .bool _) rfl rfl rfl) ?_
                refine l_q (q_move (v := .bool _) rfl rfl) ?_
                have hk50 : (!decide ((((codeL S ks ds d xs)).length : Int) = ((xs.length : Int) + 2))) = false := by rw [codeL_len]; simp
                refine l_part 89 rfl (fun hx => absurd (hk50.symm.trans hx) (by decide)) (fun _ => ?_)
                refine l_q (q_load_agg (n := 4) Try.isAgg28 Try.sizeOf28 rfl (((hb2.ext (Ext.of_below hBE)).cells' (cs' := [_, _, _, _]) 0 4 rfl)) rfl rfl) ?_
                refine l_q (q_move (v := .slice _ _ _) rfl rfl) ?_
                have hbl_b1 := (hb1.ext (Ext.of_below hBE)).lt
                have hbl_b2 := (hb2.ext (Ext.of_below hBE)).lt
                have hszf51 := hBE.size
                refine l_o (o_call Try.call8 rfl (rplain_ret _ _ _ _ _ _ _ _ _ _ (codeL S ks ds d xs) _ (by omega) (Row.of_owns hrc45) (by omega)) rfl ?_)
                rintro _ w52 ⟨rfl, hE52⟩
                replace hB := below_ext hB hE52 hsz
                replace hBE := below_ext hBE hE52 hBE.size
                replace ho43 := own_ext ho43 hE52
                replace hrc45 := own_ext hrc45 hE52
                replace hsz := Nat.le_trans hsz hE52.size
                refine l_q (q_not rfl rfl) ?_
                refine l_q (q_pick_f (v := .bool _) rfl rfl rfl) ?_
                refine l_nil ?_
                refine r_forget [(2, .slice _ _ _), (3, .slice _ _ _), (4, .int _ _), (6, .int _ _), (7, .pointer _), (8, .pointer _), (15, .int _ _), (16, .slice _ _ _), (94, .bool _)] ⟨rfl, rfl, rfl, rfl, rfl, rfl, rfl, rfl, rfl, trivial⟩ (fun e53 => ?_)
                have hk54 : (!((codeL S ks ds d xs).all (inS S))) = false := by rw [List.all_eq_true.2 hcin]; rfl
                refine r_cond_f ((congrArg Value.bool hk54 : Value.bool _ = _)) ?_
                refine r_skip ?_
                refine r_seq ?_
                refine r_region' ?_
                refine l_q (q_move (v := .int _ _) rfl rfl) ?_
                refine l_q (q_toInt Try.underlying5 Try.underlying3 rfl (by omega) rfl) ?_
                refine l_q (q_move (v := .slice _ _ _) rfl rfl) ?_
                have hbl_b1 := (hb1.ext (Ext.of_below hBE)).lt
                have hbl_b2 := (hb2.ext (Ext.of_below hBE)).lt
                have hszf55 := hBE.size
                refine l_q (q_len rfl Try.underlying26 rfl rfl) ?_
                refine l_q (q_rem rfl rfl (⟨by omega, by omega⟩) rfl) ?_
                refine l_q (q_assign (v := .int _ _) rfl rfl) ?_
                refine l_nil ?_
                refine r_forget [(2, .slice _ _ _), (3, .slice _ _ _), (6, .int _ _), (7, .pointer _), (8, .pointer _), (15, .int _ _), (16, .slice _ _ _), (18, .int _ _)] ⟨rfl, rfl, rfl, rfl, rfl, rfl, rfl, rfl, trivial⟩ (fun e56 => ?_)
                refine r_seq ?_
                obtain ⟨kk, hke⟩ : ∃ k : Nat, which % ((((codeL S ks ds d xs)).length : Nat) : Int) = k := ⟨_, (Int.toNat_of_nonneg (Int.emod_nonneg _ (by omega))).symm⟩
                have hkd : kk < (codeL S ks ds d xs).length := by have := Int.emod_lt_of_pos which (show (0 : Int) < (((codeL S ks ds d xs).length : Nat) : Int) by omega); omega
                have hnI := inS_iff.1 (hcin _ (getD_lt (d := 0) hkd))
                obtain ⟨num, hnum⟩ : ∃ n : Nat, (codeL S ks ds d xs).getD kk 0 = n := ⟨_, (Int.toNat_of_nonneg hnI.1).symm⟩
                refine r_forget [(2, .slice _ _ _), (3, .slice _ _ _), (6, .int _ _), (7, .pointer _), (8, .pointer _), (15, .int _ _), (16, .slice _ _ _), (18, vint (kk : Int))] ⟨rfl, rfl, rfl, rfl, rfl, rfl, rfl, vint_eq hke, trivial⟩ (fun e57 => ?_)
                refine r_draw ext_refl' ext_trans' [0, 1, 2, 3, 4, 5, 6, 7, 8, 9, 10, 11, 12, 13, 14, 15] [10] 9 (by kernel_rfl) (by kernel_rfl) ?_
                intro w58 _ hE58
                replace hB := below_ext hB hE58 hsz
                replace hBE := below_ext hBE hE58 hBE.size
                replace ho43 := own_ext ho43 hE58
                replace hrc45 := own_ext hrc45 hE58
                replace hsz := Nat.le_trans hsz hE58.size
                refine m_q rfl rfl (fun w' hC' => q_load_agg (n := 1) Try.isAgg24 Try.sizeOf24 rfl ((((hb1.ext (Ext.of_below hBE)).cells' (cs' := [_]) 0 1 rfl).ext hC')) rfl rfl) ?_
                refine m_q rfl rfl (fun w' hC' => q_load_agg (n := 4) Try.isAgg28 Try.sizeOf28 rfl ((((hb2.ext (Ext.of_below hBE)).cells' (cs' := [_, _, _, _]) 0 4 rfl).ext hC')) rfl rfl) ?_
                refine m_q rfl rfl (fun w' hC' => q_move (v := .slice _ _ _) rfl rfl) ?_
                refine m_q rfl rfl (fun w' hC' => q_move (v := .int _ _) rfl rfl) ?_
                obtain ⟨b59, o59, ha59, hh59⟩ := (Row.of_owns hrc45).at1 kk (((codeL S ks ds d xs)).getD kk 0) (getD_some (by omega))
                refine m_q rfl rfl (fun w' hC' => q_indexAddr1 Try.underlying26 Try.sizeOf3 rfl ha59 rfl (by omega) rfl) ?_
                refine m_q rfl rfl (fun w' hC' => q_load Try.isAgg3 rfl ((hh59.ext hC')) rfl) ?_
                refine m_q rfl rfl (fun w' hC' => q_move (v := .slice _ _ _) rfl rfl) ?_
                refine m_q rfl rfl (fun w' hC' => q_move (v := .int _ _) rfl rfl) ?_
                refine m_q rfl rfl (fun w' hC' => q_toInt Try.underlying5 Try.underlying3 rfl (by omega) rfl) ?_
                refine m_q rfl rfl (fun w' hC' => q_rem rfl rfl (⟨by omega, by omega⟩) rfl) ?_
                have hbl_b1 := (hb1.ext (Ext.of_below hBE)).lt
                have hbl_b2 := (hb2.ext (Ext.of_below hBE)).lt
                have hszf60 := hBE.size
                refine m_o rfl rfl (o_call Try.call12 rfl ((by have h := cand_ret _ _ c S W ka ks.length kc da ds.length dc num _ _ ws (er % 3) _ (hrow.below hB) (by omega) hfc (by omega) hSr (by omega) (hw.below hB) hwn hwr (by omega); rw [← hnum] at h; exact h)) rfl ?_)
                rintro _ w61 ⟨na, nc, cs, rfl, hrn, hnin, hnS, hnl, hE61⟩
                replace hrn := own_mono hrn (show w39.heap.size ≤ _ by omega)
                refine ⟨hE61, ?_⟩
                replace hB := below_ext hB hE61 hsz
                replace hBE := below_ext hBE hE61 hBE.size
                replace ho43 := own_ext ho43 hE61
                replace hrc45 := own_ext hrc45 hE61
                replace hsz := Nat.le_trans hsz hE61.size
                refine m_q rfl rfl (fun w' hC' => q_move (v := .tuple _) rfl rfl) ?_
                refine m_q rfl rfl (fun w' hC' => q_extract (vs := [_, _]) (v := .slice _ _ _) rfl rfl rfl) ?_
                refine m_q rfl rfl (fun w' hC' => q_extract (vs := [_, _]) (v := .bool _) rfl rfl rfl) ?_
                refine m_q rfl rfl (fun w' hC' => q_assign (v := .slice _ _ _) rfl rfl) ?_
                refine m_q rfl rfl (fun w' hC' => q_assign (v := .bool _) rfl rfl) ?_
                refine m_nil ?_
                refine r_forget [(2, .slice _ _ _), (8, .pointer _), (15, .int _ _), (16, .slice _ _ _), (18, .int _ _), (19, .slice _ _ _), (20, .bool _)] ⟨rfl, rfl, rfl, rfl, rfl, rfl, rfl, trivial⟩ (fun e62 => ?_)
                refine r_seq ?_
                refine r_seq ?_
                refine r_region' ?_
                refine l_q (q_move (v := .bool _) rfl rfl) ?_
                refine l_q (q_not rfl rfl) ?_
                refine l_nil ?_
                refine r_forget [(2, .slice _ _ _), (8, .pointer _), (15, .int _ _), (16, .slice _ _ _), (18, .int _ _), (19, .slice _ _ _), (115, .bool _)] ⟨rfl, rfl, rfl, rfl, rfl, rfl, rfl, trivial⟩ (fun e63 => ?_)
                refine r_cond_f rfl ?_
                refine r_skip ?_
                refine r_seq ?_
                refine r_region' ?_
                refine l_q (q_assign (v := .bool _) rfl rfl) ?_
                refine l_nil ?_
                refine r_forget [(2, .slice _ _ _), (8, .pointer _), (15, .int _ _), (16, .slice _ _ _), (18, .int _ _), (19, .slice _ _ _), (21, .bool _)] ⟨rfl, rfl, rfl, rfl, rfl, rfl, rfl, trivial⟩ (fun e64 => ?_)
                refine r_seq ?_
                refine r_seq ?_
                have hBF := Below.refl w61.heap.size w61
                have hsz_hBF : w.heap.size ≤ w61.heap.size := hsz
                have hlt_hBF_b1 := (hb1.ext (Ext.of_below hBE)).lt
                have hlt_hBF_b2 := (hb2.ext (Ext.of_below hBE)).lt
                refine r_region' ?_
                refine l_q (q_assign (v := .int _ _) rfl rfl) ?_
                refine l_nil ?_
                refine r_block ?_
                refine r_rounds (α := Nat × Bool) (fun ⟨i, fo⟩ e wl => Knows e [(2, .slice xa xs.length xc), (8, ptr b2 0), (15, vint (d : Int)), (16, .slice ra45 (((codeL S ks ds d xs)).length) rc45), (18, vint (kk : Int)), (19, .slice na (List.length cs) nc), (21, .bool fo), (22, vint (i : Int))] ∧ (i ≤ cs.length) ∧ (∀ j, j < i → cs.getD j 0 = (codeL S ks ds d xs).getD kk 0 → fo = true) ∧ (Below w61.heap.size w61 wl) ∧ (w.heap.size ≤ wl.heap.size) ∧ (Below w.heap.size w wl)) (fun ⟨i, fo⟩ => cs.length - i) (0, false) ?_ ?_
                · skip
                  exact ⟨⟨rfl, rfl, rfl, rfl, rfl, rfl, rfl, rfl, trivial⟩, (Nat.zero_le _), (fun j hj => absurd hj (Nat.not_lt_zero _)), hBF, hsz, hB⟩
                · skip
                  rintro ⟨i, fo⟩ el65 wl65 ⟨hkn, hi, hfo, hBF, hsz, hB⟩ ih65
                  obtain ⟨e65, rfl⟩ := knows_env hkn
                  refine r_seq ?_
                  refine r_seq ?_
                  refine r_region' ?_
                  refine l_q (q_move (v := .int _ _) rfl rfl) ?_
                  refine l_q (q_move (v := .slice _ _ _) rfl rfl) ?_
                  have hbl_b1 := ((hb1.ext (Ext.of_below hBE)).ext (Ext.of_below hBF)).lt
                  have hbl_b2 := ((hb2.ext (Ext.of_below hBE)).ext (Ext.of_below hBF)).lt
                  have hszf66 := hBF.size
                  refine l_q (q_len rfl Try.underlying26 rfl rfl) ?_
                  refine l_q (q_lss rfl rfl rfl) ?_
                  refine l_nil ?_
                  refine r_forget [(2, .slice _ _ _), (8, .pointer _), (15, .int _ _), (16, .slice _ _ _), (18, .int _ _), (19, .slice _ _ _), (21, .bool _), (22, .int _ _), (119, .bool _)] ⟨rfl, rfl, rfl, rfl, rfl, rfl, rfl, rfl, rfl, trivial⟩ (fun e67 => ?_)
                  refine r_cond rfl (fun hc68 => ?_) (fun hc68 => ?_)
                  · skip
                    try simp only [decide_eq_true_eq, decide_eq_false_iff_not, Bool.not_eq_true', Bool.not_eq_false', Bool.not_not, Bool.not_true, Bool.not_false, Bool.not_eq_true, Bool.not_eq_false, Int.not_lt, Int.not_le, Bool.and_eq_true, Bool.or_eq_true, Bool.and_eq_false_iff, Bool.or_eq_false_iff] at hc68
                    have hik : i < cs.length := Int.ofNat_lt.1 hc68
                    refine r_skip ?_
                    refine r_seq ?_
                    refine r_block ?_
                    refine r_seq ?_
                    refine r_region' ?_
                    have hbl_b1 := ((hb1.ext (Ext.of_below hBE)).ext (Ext.of_below hBF)).lt
                    have hbl_b2 := ((hb2.ext (Ext.of_below hBE)).ext (Ext.of_below hBF)).lt
                    have hszf69 := hBF.size
                    refine l_o (o_buildSlice (el := 3) (cs := []) Try.underlying26 el3 (by decide) (by kernel_rfl) rfl (by decide) rfl ?_)
                    intro b70 w70 hzl70 hzr70 _ hb70 hE70 ho70
                    have hne_b1_b70 : b1 ≠ b70 := by have := ((hb1.ext (Ext.of_below hBE)).ext (Ext.of_below hBF)).lt; omega
                    have hne_b2_b70 : b2 ≠ b70 := by have := ((hb2.ext (Ext.of_below hBE)).ext (Ext.of_below hBF)).lt; omega
                    have hbs_b70 : w.heap.size ≤ b70 := Nat.le_trans hsz hzl70
                    replace hB := below_ext hB hE70 hsz
                    replace hBF := below_ext hBF hE70 hBF.size
                    replace hsz := Nat.le_trans hsz hE70.size
                    replace ho70 := own_mono ho70 (show w61.heap.size ≤ _ by omega)
                    refine l_q (q_move (v := .slice _ _ _) rfl rfl) ?_
                    have hbl_b1 := ((hb1.ext (Ext.of_below hBE)).ext (Ext.of_below hBF)).lt
                    have hbl_b2 := ((hb2.ext (Ext.of_below hBE)).ext (Ext.of_below hBF)).lt
                    have hszf71 := hBF.size
                    refine l_o (o_append_map (f := vint) ([]) ((codeL S ks ds d xs)) Try.underlying26 el3 rfl rfl ho70 rfl ((Row.of_owns hrc45).ext (Ext.of_below hBF)) (fun _ => rfl) (by (try simp only [List.length_append, List.length_cons, List.length_nil, List.length_take, List.length_drop, List.length_replicate]); omega) (by omega) rfl ?_)
                    intro a72 c72 w72 hz72 ho72 hG72
                    replace hB := below_own hB hG72 ho70 (by omega) hsz
                    replace hsz := Nat.le_trans hsz hG72.size
                    replace hBF := below_own hBF hG72 ho70 (by first | exact Nat.le_refl _ | omega) hBF.size
                    refine l_q (q_assign (v := .slice _ _ _) rfl rfl) ?_
                    refine l_nil ?_
                    refine r_forget [(2, .slice _ _ _), (8, .pointer _), (15, .int _ _), (16, .slice _ _ _), (18, .int _ _), (19, .slice _ _ _), (21, .bool _), (22, .int _ _), (23, .slice _ _ _)] ⟨rfl, rfl, rfl, rfl, rfl, rfl, rfl, rfl, rfl, trivial⟩ (fun e73 => ?_)
                    refine r_seq ?_
                    have hxcap : (codeL S ks ds d xs).length ≤ c72 := by have h := (Row.of_owns ho72).2.1; rwa [List.nil_append] at h
                    obtain ⟨gg, rest, hga, hgb, hgB⟩ := own_open ho72 (by rw [List.nil_append]; omega)
                    subst hga
                    have hxll : ([] ++ (codeL S ks ds d xs)).length = (codeL S ks ds d xs).length := by rw [List.nil_append]
                    refine r_region' ?_
                    refine l_q (q_move (v := .slice _ _ _) rfl rfl) ?_
                    refine l_q (q_move (v := .int _ _) rfl rfl) ?_
                    refine l_q (q_move (v := .slice _ _ _) rfl rfl) ?_
                    refine l_q (q_move (v := .int _ _) rfl rfl) ?_
                    obtain ⟨b74, o74, ha74, hh74⟩ := ((Row.of_owns hrn).ext (Ext.of_below hBF)).at1 i ((cs).getD i 0) (getD_some (by omega))
                    refine l_q (q_indexAddr1 Try.underlying26 Try.sizeOf3 rfl ha74 rfl (by omega) rfl) ?_
                    refine l_q (q_load Try.isAgg3 rfl (hh74) rfl) ?_
                    refine l_q (q_indexAddr1 Try.underlying26 Try.sizeOf3 rfl rfl rfl (by omega) rfl) ?_
                    refine l_o (o_store1 Try.sizeOf3 rfl rfl rfl rfl hgB (by rw [List.length_append, List.length_map, List.nil_append]; omega) rfl ?_)
                    intro w75 hz75 hgB hG75
                    replace hB := below_upd hB hG75 hsz (by omega)
                    replace hsz : w.heap.size ≤ w75.heap.size := by rw [hz75]; exact hsz
                    replace hBF := below_upd hBF hG75 hBF.size (by omega)
                    refine l_nil ?_
                    refine r_forget [(2, .slice _ _ _), (8, .pointer _), (15, .int _ _), (16, .slice _ _ _), (18, .int _ _), (19, .slice _ _ _), (21, .bool _), (22, .int _ _), (23, .slice _ _ _)] ⟨rfl, rfl, rfl, rfl, rfl, rfl, rfl, rfl, rfl, trivial⟩ (fun e76 => ?_)
                    refine r_seq ?_
                    have hxr := row_set (l := (codeL S ks ds d xs)) (k := kk) (v := cs.getD i 0) (c := c72) (by omega) hxcap hgB
                    refine r_forget [(2, .slice _ _ _), (8, .pointer _), (15, .int _ _), (16, .slice _ _ _), (18, .int _ _), (19, .slice _ _ _), (21, .bool _), (22, .int _ _), (23, .slice (some ⟨gg, 0, none⟩) ((((codeL S ks ds d xs).set kk (cs.getD i 0))).length) c72)] ⟨rfl, rfl, rfl, rfl, rfl, rfl, rfl, rfl, by rw [List.length_set]; rfl, trivial⟩ (fun e77 => ?_)
                    refine r_region' ?_
                    refine l_q (q_load_agg (n := 4) Try.isAgg28 Try.sizeOf28 rfl ((((hb2.ext (Ext.of_below hBE)).ext (Ext.of_below hBF)).cells' (cs' := [_, _, _, _]) 0 4 rfl)) rfl rfl) ?_
                    have hbl_b1 := ((hb1.ext (Ext.of_below hBE)).ext (Ext.of_below hBF)).lt
                    have hbl_b2 := ((hb2.ext (Ext.of_below hBE)).ext (Ext.of_below hBF)).lt
                    have hszf78 := hBF.size
                    refine l_o (o_call Try.call11 rfl (lbook_ret _ _ _ _ _ _ ks ds _ (hka.below hB) (hda.below hB) (by omega) (by omega)) rfl ?_)
                    rintro _ w79 ⟨ka79, kc79, da79, dc79, rfl, hrk79, hrd79, hE79⟩
                    replace hB := below_ext hB hE79 hsz
                    replace hBF := below_ext hBF hE79 hBF.size
                    replace hxr := hxr.ext hE79
                    replace hsz := Nat.le_trans hsz hE79.size
                    refine l_q (q_move (v := .int _ _) rfl rfl) ?_
                    refine l_q (q_move (v := .slice _ _ _) rfl rfl) ?_
                    have hbl_b1 := ((hb1.ext (Ext.of_below hBE)).ext (Ext.of_below hBF)).lt
                    have hbl_b2 := ((hb2.ext (Ext.of_below hBE)).ext (Ext.of_below hBF)).lt
                    have hszf80 := hBF.size
                    refine l_o (o_call Try.call13 rfl (decode_ret _ _ _ _ _ _ ks ds d _ _ ((codeL S ks ds d xs).set kk (cs.getD i 0)) _ hrk79 hrd79 hok hd hxr (by simp only [List.length_set]; omega) (by simp only [List.length_set]; omega) (set_in hcin (hnS _ (getD_lt (d := 0) hik)))) rfl ?_)
                    rintro _ w81 ⟨pa81, pc81, wa81, wn81, wc81, e81, p81, rfl, hrp81, hdr, hE81⟩
                    replace hB := below_ext hB hE81 hsz
                    replace hBF := below_ext hBF hE81 hBF.size
                    replace hxr := hxr.ext hE81
                    replace hrk79 := hrk79.ext hE81
                    replace hrd79 := hrd79.ext hE81
                    replace hsz := Nat.le_trans hsz hE81.size
                    obtain ⟨htd1, htd2⟩ := top_dec hPS hx10 hkl hk5 hky hxs (by omega) (hnS _ (getD_lt (d := 0) hik)) hdr
                    refine l_q (q_move (v := .tuple _) rfl rfl) ?_
                    refine l_q (q_extract (vs := [_, _, _]) (v := .slice _ _ _) rfl rfl rfl) ?_
                    refine l_q (q_extract (vs := [_, _, _]) (v := .slice _ _ _) rfl rfl rfl) ?_
                    refine l_q (q_extract (vs := [_, _, _]) (v := .int _ _) rfl rfl rfl) ?_
                    refine l_q (q_assign (v := .slice _ _ _) rfl rfl) ?_
                    refine l_q (q_assign (v := .slice _ _ _) rfl rfl) ?_
                    refine l_q (q_assign (v := .int _ _) rfl rfl) ?_
                    refine l_nil ?_
                    refine r_forget [(2, .slice _ _ _), (8, .pointer _), (15, .int _ _), (16, .slice _ _ _), (18, .int _ _), (19, .slice _ _ _), (21, .bool _), (22, .int _ _), (24, .slice _ _ _), (26, .int _ _)] ⟨rfl, rfl, rfl, rfl, rfl, rfl, rfl, rfl, rfl, rfl, trivial⟩ (fun e82 => ?_)
                    refine r_seq ?_
                    refine r_seq ?_
                    refine r_draw ext_refl' ext_trans' [0, 1, 2, 3, 4, 5, 6, 7, 8, 9, 10, 11, 12, 13, 14, 15, 16, 17, 18, 19, 20, 21] [18] 12 (by kernel_rfl) (by kernel_rfl) ?_
                    intro w83 _ hE83
                    replace hB := below_ext hB hE83 hsz
                    replace hBF := below_ext hBF hE83 hBF.size
                    replace hxr := hxr.ext hE83
                    replace hrk79 := hrk79.ext hE83
                    replace hrd79 := hrd79.ext hE83
                    replace hrp81 := hrp81.ext hE83
                    replace hsz := Nat.le_trans hsz hE83.size
                    refine m_q rfl rfl (fun w' hC' => q_move (v := .int _ _) rfl rfl) ?_
                    refine m_q rfl rfl (fun w' hC' => q_eql rfl rfl rfl) ?_
                    refine m_q rfl rfl (fun w' hC' => q_move (v := .slice _ _ _) rfl rfl) ?_
                    refine m_q rfl rfl (fun w' hC' => q_move (v := .int _ _) rfl rfl) ?_
                    obtain ⟨b84, o84, ha84, hh84⟩ := ((Row.of_owns hrn).ext (Ext.of_below hBF)).at1 i ((cs).getD i 0) (getD_some (by omega))
                    refine m_q rfl rfl (fun w' hC' => q_indexAddr1 Try.underlying26 Try.sizeOf3 rfl ha84 rfl (by omega) rfl) ?_
                    refine m_q rfl rfl (fun w' hC' => q_load Try.isAgg3 rfl ((hh84.ext hC')) rfl) ?_
                    refine m_q rfl rfl (fun w' hC' => q_move (v := .slice _ _ _) rfl rfl) ?_
                    refine m_q rfl rfl (fun w' hC' => q_move (v := .int _ _) rfl rfl) ?_
                    obtain ⟨b85, o85, ha85, hh85⟩ := ((Row.of_owns hrc45).ext (Ext.of_below hBF)).at1 kk (((codeL S ks ds d xs)).getD kk 0) (getD_some (by omega))
                    refine m_q rfl rfl (fun w' hC' => q_indexAddr1 Try.underlying26 Try.sizeOf3 rfl ha85 rfl (by omega) rfl) ?_
                    refine m_q rfl rfl (fun w' hC' => q_load Try.isAgg3 rfl ((hh85.ext hC')) rfl) ?_
                    refine m_q rfl rfl (fun w' hC' => q_eql rfl rfl rfl) ?_
                    refine m_q rfl rfl (fun w' hC' => q_neq_bool Try.underlying4 rfl rfl rfl) ?_
                    refine m_q rfl rfl (fun w' hC' => q_move (v := .bool _) rfl rfl) ?_
                    have hk86 : (!((decide (e81 = 0)) == (decide (((cs).getD i 0) = (((codeL S ks ds d xs)).getD kk 0))))) = false := by rw [decide_iff htd1]; simp
                    refine m_part 153 rfl (fun hx => absurd (hk86.symm.trans hx) (by decide)) (fun _ => ?_)
                    refine m_q rfl rfl (fun w' hC' => q_move (v := .int _ _) rfl rfl) ?_
                    refine m_q rfl rfl (fun w' hC' => q_eql rfl rfl rfl) ?_
                    refine m_q rfl rfl (fun w' hC' => q_move (v := .bool _) rfl rfl) ?_
                    refine m_part 156 rfl (fun hc87 => ?_) (fun hc87 => ?_)
                    · skip
                      try simp only [decide_eq_true_eq, decide_eq_false_iff_not, Bool.not_eq_true', Bool.not_eq_false', Bool.not_not, Bool.not_true, Bool.not_false, Bool.not_eq_true, Bool.not_eq_false, Int.not_lt, Int.not_le, Bool.and_eq_true, Bool.or_eq_true, Bool.and_eq_false_iff, Bool.or_eq_false_iff] at hc87
                      have hec := hc87
                      refine m_q rfl rfl (fun w' hC' => q_move (v := .slice _ _ _) rfl rfl) ?_
                      refine m_q rfl rfl (fun w' hC' => q_move (v := .slice _ _ _) rfl rfl) ?_
                      have hbl_b1 := ((hb1.ext (Ext.of_below hBE)).ext (Ext.of_below hBF)).lt
                      have hbl_b2 := ((hb2.ext (Ext.of_below hBE)).ext (Ext.of_below hBF)).lt
                      have hszf88 := hBF.size
                      refine m_o rfl rfl (o_call Try.call14 rfl (same4_ret _ _ p81 _ _ xs _ hrp81 (by rw [htd2 hec]; omega) (hx.below hB) (by omega)) rfl ?_)
                      rintro _ w89 ⟨rfl, hE89⟩
                      refine ⟨hE89, ?_⟩
                      replace hB := below_ext hB hE89 hsz
                      replace hBF := below_ext hBF hE89 hBF.size
                      replace hxr := hxr.ext hE89
                      replace hrk79 := hrk79.ext hE89
                      replace hrd79 := hrd79.ext hE89
                      replace hrp81 := hrp81.ext hE89
                      replace hsz := Nat.le_trans hsz hE89.size
                      refine m_q rfl rfl (fun w' hC' => q_not rfl rfl) ?_
                      refine m_q rfl rfl (fun w' hC' => q_pick_t (v := .bool _) rfl rfl rfl) ?_
                      refine m_q rfl rfl (fun w' hC' => q_pick_f (v := .bool _) rfl rfl rfl) ?_
                      refine m_nil ?_
                      refine r_forget [(2, .slice _ _ _), (8, .pointer _), (15, .int _ _), (16, .slice _ _ _), (18, .int _ _), (19, .slice _ _ _), (21, .bool _), (22, .int _ _), (162, .bool _)] ⟨rfl, rfl, rfl, rfl, rfl, rfl, rfl, rfl, rfl, trivial⟩ (fun e90 => ?_)
                      have hk91 : (!(decide (p81 = xs))) = false := by rw [htd2 hec]; simp
                      refine r_cond_f ((congrArg Value.bool hk91 : Value.bool _ = _)) ?_
                      refine r_skip ?_
                      refine r_draw ext_refl' ext_trans' [0, 1, 2, 3, 4, 5, 6, 7, 8, 9, 10, 11, 12] [] 12 (by kernel_rfl) (by kernel_rfl) ?_
                      intro w92 _ hE92
                      replace hB := below_ext hB hE92 hsz
                      replace hBF := below_ext hBF hE92 hBF.size
                      replace hxr := hxr.ext hE92
                      replace hrk79 := hrk79.ext hE92
                      replace hrd79 := hrd79.ext hE92
                      replace hrp81 := hrp81.ext hE92
                      replace hsz := Nat.le_trans hsz hE92.size
                      refine m_q rfl rfl (fun w' hC' => q_move (v := .bool _) rfl rfl) ?_
                      refine m_q rfl rfl (fun w' hC' => q_move (v := .bool _) rfl rfl) ?_
                      refine m_part 164 rfl (fun hc93 => ?_) (fun hc93 => ?_)
                      · skip
                        try simp only [decide_eq_true_eq, decide_eq_false_iff_not, Bool.not_eq_true', Bool.not_eq_false', Bool.not_not, Bool.not_true, Bool.not_false, Bool.not_eq_true, Bool.not_eq_false, Int.not_lt, Int.not_le, Bool.and_eq_true, Bool.or_eq_true, Bool.and_eq_false_iff, Bool.or_eq_false_iff] at hc93
                        have hfot := hc93
                        refine m_q rfl rfl (fun w' hC' => q_skip rfl) ?_
                        refine m_q rfl rfl (fun w' hC' => q_skip rfl) ?_
                        refine m_q rfl rfl (fun w' hC' => q_skip rfl) ?_
                        refine m_q rfl rfl (fun w' hC' => q_skip rfl) ?_
                        refine m_q rfl rfl (fun w' hC' => q_skip rfl) ?_
                        refine m_q rfl rfl (fun w' hC' => q_skip rfl) ?_
                        refine m_q rfl rfl (fun w' hC' => q_skip rfl) ?_
                        refine m_q rfl rfl (fun w' hC' => q_skip rfl) ?_
                        refine m_q rfl rfl (fun w' hC' => q_skip rfl) ?_
                        refine m_q rfl rfl (fun w' hC' => q_pick_t (v := .bool _) rfl rfl rfl) ?_
                        refine m_q rfl rfl (fun w' hC' => q_assign (v := .bool _) rfl rfl) ?_
                        refine m_nil ?_
                        refine r_forget [(2, .slice _ _ _), (8, .pointer _), (15, .int _ _), (16, .slice _ _ _), (18, .int _ _), (19, .slice _ _ _), (21, .bool _), (22, .int _ _)] ⟨rfl, rfl, rfl, rfl, rfl, rfl, rfl, rfl, trivial⟩ (fun e94 => ?_)
                        refine r_inBlock ?_
                        refine r_region' ?_
                        refine l_q (q_move (v := .int _ _) rfl rfl) ?_
                        refine l_q (q_add rfl rfl (by omega) rfl) ?_
                        refine l_q (q_assign (v := .int _ _) rfl rfl) ?_
                        refine l_nil ?_
                        refine r_forget [(2, .slice _ _ _), (8, .pointer _), (15, .int _ _), (16, .slice _ _ _), (18, .int _ _), (19, .slice _ _ _), (21, .bool _), (22, .int _ _)] ⟨rfl, rfl, rfl, rfl, rfl, rfl, rfl, rfl, trivial⟩ (fun e95 => ?_)
                        exact ih65 (i + 1, true) _ _ ⟨⟨rfl, rfl, rfl, rfl, rfl, rfl, rfl, (vint_eq (by omega)), trivial⟩, (by omega), (fun j hj he => by first | rfl | (rcases Nat.lt_succ_iff_lt_or_eq.1 hj with h | h; exact absurd (hfo j h he) (by simp_all); subst h; exact decide_eq_true he)), hBF, hsz, hB⟩ (by first | omega | (dsimp only; omega))
                      · skip
                        try simp only [decide_eq_true_eq, decide_eq_false_iff_not, Bool.not_eq_true', Bool.not_eq_false', Bool.not_not, Bool.not_true, Bool.not_false, Bool.not_eq_true, Bool.not_eq_false, Int.not_lt, Int.not_le, Bool.and_eq_true, Bool.or_eq_true, Bool.and_eq_false_iff, Bool.or_eq_false_iff] at hc93
                        have hfof := hc93
                        refine m_q rfl rfl (fun w' hC' => q_move (v := .slice _ _ _) rfl rfl) ?_
                        refine m_q rfl rfl (fun w' hC' => q_move (v := .int _ _) rfl rfl) ?_
                        obtain ⟨b96, o96, ha96, hh96⟩ := ((Row.of_owns hrn).ext (Ext.of_below hBF)).at1 i ((cs).getD i 0) (getD_some (by omega))
                        refine m_q rfl rfl (fun w' hC' => q_indexAddr1 Try.underlying26 Try.sizeOf3 rfl ha96 rfl (by omega) rfl) ?_
                        refine m_q rfl rfl (fun w' hC' => q_load Try.isAgg3 rfl ((hh96.ext hC')) rfl) ?_
                        refine m_q rfl rfl (fun w' hC' => q_move (v := .slice _ _ _) rfl rfl) ?_
                        refine m_q rfl rfl (fun w' hC' => q_move (v := .int _ _) rfl rfl) ?_
                        obtain ⟨b97, o97, ha97, hh97⟩ := ((Row.of_owns hrc45).ext (Ext.of_below hBF)).at1 kk (((codeL S ks ds d xs)).getD kk 0) (getD_some (by omega))
                        refine m_q rfl rfl (fun w' hC' => q_indexAddr1 Try.underlying26 Try.sizeOf3 rfl ha97 rfl (by omega) rfl) ?_
                        refine m_q rfl rfl (fun w' hC' => q_load Try.isAgg3 rfl ((hh97.ext hC')) rfl) ?_
                        refine m_q rfl rfl (fun w' hC' => q_eql rfl rfl rfl) ?_
                        refine m_q rfl rfl (fun w' hC' => q_pick_f (v := .bool _) rfl rfl rfl) ?_
                        refine m_q rfl rfl (fun w' hC' => q_assign (v := .bool _) rfl rfl) ?_
                        refine m_nil ?_
                        refine r_forget [(2, .slice _ _ _), (8, .pointer _), (15, .int _ _), (16, .slice _ _ _), (18, .int _ _), (19, .slice _ _ _), (21, .bool _), (22, .int _ _)] ⟨rfl, rfl, rfl, rfl, rfl, rfl, rfl, rfl, trivial⟩ (fun e98 => ?_)
                        refine r_inBlock ?_
                        refine r_region' ?_
                        refine l_q (q_move (v := .int _ _) rfl rfl) ?_
                        refine l_q (q_add rfl rfl (by omega) rfl) ?_
                        refine l_q (q_assign (v := .int _ _) rfl rfl) ?_
                        refine l_nil ?_
                        refine r_forget [(2, .slice _ _ _), (8, .pointer _), (15, .int _ _), (16, .slice _ _ _), (18, .int _ _), (19, .slice _ _ _), (21, .bool _), (22, .int _ _)] ⟨rfl, rfl, rfl, rfl, rfl, rfl, rfl, rfl, trivial⟩ (fun e99 => ?_)
                        exact ih65 (i + 1, decide (((cs).getD i 0) = (((codeL S ks ds d xs)).getD kk 0))) _ _ ⟨⟨rfl, rfl, rfl, rfl, rfl, rfl, rfl, (vint_eq (by omega)), trivial⟩, (by omega), (fun j hj he => by first | rfl | (rcases Nat.lt_succ_iff_lt_or_eq.1 hj with h | h; exact absurd (hfo j h he) (by simp_all); subst h; exact decide_eq_true he)), hBF, hsz, hB⟩ (by first | omega | (dsimp only; omega))
                    · skip
                      try simp only [decide_eq_true_eq, decide_eq_false_iff_not, Bool.not_eq_true', Bool.not_eq_false', Bool.not_not, Bool.not_true, Bool.not_false, Bool.not_eq_true, Bool.not_eq_false, Int.not_lt, Int.not_le, Bool.and_eq_true, Bool.or_eq_true, Bool.and_eq_false_iff, Bool.or_eq_false_iff] at hc87
                      skip
                      refine m_q rfl rfl (fun w' hC' => q_skip rfl) ?_
                      refine m_q rfl rfl (fun w' hC' => q_skip rfl) ?_
                      refine m_o rfl rfl ((q_skip rfl).eff ⟨Ext.refl _, ?_⟩)
                      refine m_q rfl rfl (fun w' hC' => q_skip rfl) ?_
                      refine m_q rfl rfl (fun w' hC' => q_pick_f (v := .bool _) rfl rfl rfl) ?_
                      refine m_q rfl rfl (fun w' hC' => q_pick_f (v := .bool _) rfl rfl rfl) ?_
                      refine m_nil ?_
                      refine r_forget [(2, .slice _ _ _), (8, .pointer _), (15, .int _ _), (16, .slice _ _ _), (18, .int _ _), (19, .slice _ _ _), (21, .bool _), (22, .int _ _), (162, .bool _)] ⟨rfl, rfl, rfl, rfl, rfl, rfl, rfl, rfl, rfl, trivial⟩ (fun e100 => ?_)
                      refine r_cond_f rfl ?_
                      refine r_skip ?_
                      refine r_draw ext_refl' ext_trans' [0, 1, 2, 3, 4, 5, 6, 7, 8, 9, 10, 11, 12] [] 12 (by kernel_rfl) (by kernel_rfl) ?_
                      intro w101 _ hE101
                      replace hB := below_ext hB hE101 hsz
                      replace hBF := below_ext hBF hE101 hBF.size
                      replace hxr := hxr.ext hE101
                      replace hrk79 := hrk79.ext hE101
                      replace hrd79 := hrd79.ext hE101
                      replace hrp81 := hrp81.ext hE101
                      replace hsz := Nat.le_trans hsz hE101.size
                      refine m_q rfl rfl (fun w' hC' => q_move (v := .bool _) rfl rfl) ?_
                      refine m_q rfl rfl (fun w' hC' => q_move (v := .bool _) rfl rfl) ?_
                      refine m_part 164 rfl (fun hc102 => ?_) (fun hc102 => ?_)
                      · skip
                        try simp only [decide_eq_true_eq, decide_eq_false_iff_not, Bool.not_eq_true', Bool.not_eq_false', Bool.not_not, Bool.not_true, Bool.not_false, Bool.not_eq_true, Bool.not_eq_false, Int.not_lt, Int.not_le, Bool.and_eq_true, Bool.or_eq_true, Bool.and_eq_false_iff, Bool.or_eq_false_iff] at hc102
                        have hfot := hc102
                        refine m_q rfl rfl (fun w' hC' => q_skip rfl) ?_
                        refine m_q rfl rfl (fun w' hC' => q_skip rfl) ?_
                        refine m_q rfl rfl (fun w' hC' => q_skip rfl) ?_
                        refine m_q rfl rfl (fun w' hC' => q_skip rfl) ?_
                        refine m_q rfl rfl (fun w' hC' => q_skip rfl) ?_
                        refine m_q rfl rfl (fun w' hC' => q_skip rfl) ?_
                        refine m_q rfl rfl (fun w' hC' => q_skip rfl) ?_
                        refine m_q rfl rfl (fun w' hC' => q_skip rfl) ?_
                        refine m_q rfl rfl (fun w' hC' => q_skip rfl) ?_
                        refine m_q rfl rfl (fun w' hC' => q_pick_t (v := .bool _) rfl rfl rfl) ?_
                        refine m_q rfl rfl (fun w' hC' => q_assign (v := .bool _) rfl rfl) ?_
                        refine m_nil ?_
                        refine r_forget [(2, .slice _ _ _), (8, .pointer _), (15, .int _ _), (16, .slice _ _ _), (18, .int _ _), (19, .slice _ _ _), (21, .bool _), (22, .int _ _)] ⟨rfl, rfl, rfl, rfl, rfl, rfl, rfl, rfl, trivial⟩ (fun e103 => ?_)
                        refine r_inBlock ?_
                        refine r_region' ?_
                        refine l_q (q_move (v := .int _ _) rfl rfl) ?_
                        refine l_q (q_add rfl rfl (by omega) rfl) ?_
                        refine l_q (q_assign (v := .int _ _) rfl rfl) ?_
                        refine l_nil ?_
                        refine r_forget [(2, .slice _ _ _), (8, .pointer _), (15, .int _ _), (16, .slice _ _ _), (18, .int _ _), (19, .slice _ _ _), (21, .bool _), (22, .int _ _)] ⟨rfl, rfl, rfl, rfl, rfl, rfl, rfl, rfl, trivial⟩ (fun e104 => ?_)
                        exact ih65 (i + 1, true) _ _ ⟨⟨rfl, rfl, rfl, rfl, rfl, rfl, rfl, (vint_eq (by omega)), trivial⟩, (by omega), (fun j hj he => by first | rfl | (rcases Nat.lt_succ_iff_lt_or_eq.1 hj with h | h; exact absurd (hfo j h he) (by simp_all); subst h; exact decide_eq_true he)), hBF, hsz, hB⟩ (by first | omega | (dsimp only; omega))
                      · skip
                        try simp only [decide_eq_true_eq, decide_eq_false_iff_not, Bool.not_eq_true', Bool.not_eq_false', Bool.not_not, Bool.not_true, Bool.not_false, Bool.not_eq_true, Bool.not_eq_false, Int.not_lt, Int.not_le, Bool.and_eq_true, Bool.or_eq_true, Bool.and_eq_false_iff, Bool.or_eq_false_iff] at hc102
                        have hfof := hc102
                        refine m_q rfl rfl (fun w' hC' => q_move (v := .slice _ _ _) rfl rfl) ?_
                        refine m_q rfl rfl (fun w' hC' => q_move (v := .int _ _) rfl rfl) ?_
                        obtain ⟨b105, o105, ha105, hh105⟩ := ((Row.of_owns hrn).ext (Ext.of_below hBF)).at1 i ((cs).getD i 0) (getD_some (by omega))
                        refine m_q rfl rfl (fun w' hC' => q_indexAddr1 Try.underlying26 Try.sizeOf3 rfl ha105 rfl (by omega) rfl) ?_
                        refine m_q rfl rfl (fun w' hC' => q_load Try.isAgg3 rfl ((hh105.ext hC')) rfl) ?_
                        refine m_q rfl rfl (fun w' hC' => q_move (v := .slice _ _ _) rfl rfl) ?_
                        refine m_q rfl rfl (fun w' hC' => q_move (v := .int _ _) rfl rfl) ?_
                        obtain ⟨b106, o106, ha106, hh106⟩ := ((Row.of_owns hrc45).ext (Ext.of_below hBF)).at1 kk (((codeL S ks ds d xs)).getD kk 0) (getD_some (by omega))
                        refine m_q rfl rfl (fun w' hC' => q_indexAddr1 Try.underlying26 Try.sizeOf3 rfl ha106 rfl (by omega) rfl) ?_
                        refine m_q rfl rfl (fun w' hC' => q_load Try.isAgg3 rfl ((hh106.ext hC')) rfl) ?_
                        refine m_q rfl rfl (fun w' hC' => q_eql rfl rfl rfl) ?_
                        refine m_q rfl rfl (fun w' hC' => q_pick_f (v := .bool _) rfl rfl rfl) ?_
                        refine m_q rfl rfl (fun w' hC' => q_assign (v := .bool _) rfl rfl) ?_
                        refine m_nil ?_
                        refine r_forget [(2, .slice _ _ _), (8, .pointer _), (15, .int _ _), (16, .slice _ _ _), (18, .int _ _), (19, .slice _ _ _), (21, .bool _), (22, .int _ _)] ⟨rfl, rfl, rfl, rfl, rfl, rfl, rfl, rfl, trivial⟩ (fun e107 => ?_)
                        refine r_inBlock ?_
                        refine r_region' ?_
                        refine l_q (q_move (v := .int _ _) rfl rfl) ?_
                        refine l_q (q_add rfl rfl (by omega) rfl) ?_
                        refine l_q (q_assign (v := .int _ _) rfl rfl) ?_
                        refine l_nil ?_
                        refine r_forget [(2, .slice _ _ _), (8, .pointer _), (15, .int _ _), (16, .slice _ _ _), (18, .int _ _), (19, .slice _ _ _), (21, .bool _), (22, .int _ _)] ⟨rfl, rfl, rfl, rfl, rfl, rfl, rfl, rfl, trivial⟩ (fun e108 => ?_)
                        exact ih65 (i + 1, decide (((cs).getD i 0) = (((codeL S ks ds d xs)).getD kk 0))) _ _ ⟨⟨rfl, rfl, rfl, rfl, rfl, rfl, rfl, (vint_eq (by omega)), trivial⟩, (by omega), (fun j hj he => by first | rfl | (rcases Nat.lt_succ_iff_lt_or_eq.1 hj with h | h; exact absurd (hfo j h he) (by simp_all); subst h; exact decide_eq_true he)), hBF, hsz, hB⟩ (by first | omega | (dsimp only; omega))
                  · skip
                    try simp only [decide_eq_true_eq, decide_eq_false_iff_not, Bool.not_eq_true', Bool.not_eq_false', Bool.not_not, Bool.not_true, Bool.not_false, Bool.not_eq_true, Bool.not_eq_false, Int.not_lt, Int.not_le, Bool.and_eq_true, Bool.or_eq_true, Bool.and_eq_false_iff, Bool.or_eq_false_iff] at hc68
                    refine r_exit rfl ?_
                    refine r_seq ?_
                    have hie : i = cs.length := by omega
                    subst hie
                    obtain ⟨j, hj, hje⟩ := mem_getD hnin
                    have hfoE := hfo j hj hje
                    refine r_region' ?_
                    refine l_q (q_move (v := .bool _) rfl rfl) ?_
                    refine l_q (q_move (v := .bool _) rfl rfl) ?_
                    have hk109 : fo = true := hfoE
                    refine l_part 176 rfl (fun _ => ?_) (fun hx => absurd (hk109.symm.trans hx) (by decide))
                    have hbl_b1 := ((hb1.ext (Ext.of_below hBE)).ext (Ext.of_below hBF)).lt
                    have hbl_b2 := ((hb2.ext (Ext.of_below hBE)).ext (Ext.of_below hBF)).lt
                    have hszf110 := hBF.size
                    refine l_o (o_call Try.call9 rfl (coded_ret _) rfl ?_)
                    rintro _ w111 ⟨rfl, hE111⟩
                    replace hB := below_ext hB hE111 hsz
                    replace hBF := below_ext hBF hE111 hBF.size
                    replace hsz := Nat.le_trans hsz hE111.size
                    refine l_q (q_pick_t (v := .bool _) rfl rfl rfl) ?_
                    refine l_q (q_assign (v := .bool _) rfl rfl) ?_
                    refine l_nil ?_
                    refine r_forget [(14, .bool _)] ⟨rfl, trivial⟩ (fun e112 => ?_)
                    refine r_ret_ (vs := [.bool _]) rfl Try.func3 rfl (.nil _) ⟨rfl, trivial⟩ ?_
                    exact ⟨rfl, Ext.of_below hB⟩
end Go.Proofs.Ytfbjllabgkabkaa
