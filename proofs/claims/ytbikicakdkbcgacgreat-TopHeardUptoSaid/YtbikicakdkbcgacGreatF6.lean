/- Contracts. -/
import Derived.Test.YtbikicakdkbcgacGreatF5
set_option linter.unusedVariables false
set_option linter.unusedSimpArgs false
namespace Go.Proofs.YtbikicakdkbcgacGreat
open Go Go.RowKit Go.Gv Go.Fl

theorem tup2 {x x' y y' : Value} (h : x = x') (h' : y = y') : Value.tuple ⟨[x, y]⟩ = .tuple ⟨[x', y']⟩ := by rw [h, h']
theorem join_ret {a : Option Addr} {c : Nat} {xs : List Sg} {sep : Sg} {w : World} (hrow : Row w a xs.length c 1 (xs.map vstr)) (hlen : (Lib.join xs sep).length ≤ 140737488355328) (hn : xs.length ≤ 140737488355328) :
    Ret Tryz.prog 152 [.slice a xs.length c, vstr sep] w (fun v w' => v = vstr (Lib.join xs sep) ∧ Ext w w') := by
  rcases hrow.2.2 with h0 | ⟨b, o, ha, hc⟩
  · have h0 : xs = [] := List.map_eq_nil_iff.1 h0
    subst h0
    exact (Tryz.strings_Join_none a c ⟨⟨sep⟩⟩ w).mono (fun e w' h => ⟨_, h.1, rfl, by rw [h.2]; exact Ext.refl _⟩)
  · by_cases h0 : xs = []
    · subst h0
      exact (Tryz.strings_Join_none a c ⟨⟨sep⟩⟩ w).mono (fun e w' h => ⟨_, h.1, rfl, by rw [h.2]; exact Ext.refl _⟩)
    · subst ha
      have hm : (xs.map (fun l => (⟨⟨l⟩⟩ : ByteArray))).map (·.data.toList) = xs := by rw [List.map_map]; exact List.map_id _
      have hcell : ∀ (j : Nat) x, (xs.map (fun l => (⟨⟨l⟩⟩ : ByteArray)))[j]? = some x → w.cell? ⟨b, o + j, none⟩ = some (.string x) := by
        intro j x hj
        refine hc j _ ?_
        rw [List.getElem?_map] at hj ⊢
        cases hx : xs[j]? with
        | none => simp [hx] at hj
        | some y => simp [hx] at hj; subst hj; rfl
      have hbk : b < w.heap.size := by
        obtain ⟨x, l, rfl⟩ := List.exists_cons_of_ne_nil h0
        exact World.block_lt_of_cell? w _ (hcell 0 _ rfl)
      have := Tryz.strings_Join b o c (xs.map (fun l => (⟨⟨l⟩⟩ : ByteArray))) ⟨⟨sep⟩⟩ w hcell hbk (by rw [List.length_map]; exact hn) (by rw [List.length_map]; exact hrow.2.1) (by rw [hm]; exact hlen)
      rw [hm, List.length_map] at this
      exact this.mono (fun e w' h => ⟨_, h.1, rfl, Ext.of_below h.2⟩)
def thin (c : List Sg) (s : Sg) : Bool := (decide (c.length ≤ 9) && c.all (fun t => decide (t.length ≤ 9))) && decide (s.length ≤ 60)
theorem thin_bad {c : List Sg} {s : Sg} {k : Nat} (hk : k < c.length) (h : 9 < (c.getD k []).length) : thin c s = false := by
  unfold thin
  rw [Bool.and_eq_false_iff]; left
  rw [Bool.and_eq_false_iff]; right
  rw [List.all_eq_false]
  exact ⟨c.getD k [], getD_lt hk, by simp only [decide_eq_true_eq]; omega⟩
theorem thin_end {c : List Sg} {s : Sg} {k : Nat} (hk : k ≤ c.length) (h7 : k = c.length ∨ k = 10) (h : ∀ j, j < k → (c.getD j []).length ≤ 9) : thin c s = (decide ((c.length : Int) ≤ 9) && decide ((s.length : Int) ≤ 60)) := by
  unfold thin
  have h1 : decide ((s.length : Int) ≤ 60) = decide (s.length ≤ 60) := by rw [Bool.eq_iff_iff, decide_eq_true_eq, decide_eq_true_eq]; omega
  have h2 : decide ((c.length : Int) ≤ 9) = decide (c.length ≤ 9) := by rw [Bool.eq_iff_iff, decide_eq_true_eq, decide_eq_true_eq]; omega
  rw [h1, h2]
  by_cases h70 : c.length ≤ 9
  · have : k = c.length := by omega
    subst this
    rw [all_getD (d := []) (p := fun t => decide (t.length ≤ 9)) (fun j hj => by simpa using h j hj), Bool.and_true]
  · simp [h70]
theorem fault_none {c : List Sg} (h6 : c.length ≤ 6) (h : c.length = 0 ∨ c.all letterOk = false) : fault c = 1 := by
  by_cases h0 : c.length = 0
  · exact fault_empty h0
  · rcases h with h | h
    · omega
    · rw [List.all_eq_false] at h
      obtain ⟨x, hx, hl⟩ := h
      obtain ⟨i, hi, rfl⟩ := List.mem_iff_getElem.1 hx
      refine fault_bad h6 hi (.inl ?_)
      rw [List.getD_eq_getElem?_getD, List.getElem?_eq_getElem hi]
      simpa using hl
theorem fault_all {c : List Sg} (h6 : c.length ≤ 6) (h0 : c.length ≠ 0) (h : c.all letterOk = true) (hd : ∀ j, j < c.length → distinctAt c j = true) : fault c = 0 :=
  fault_good h6 h0 (fun i hi => ⟨List.all_eq_true.1 h _ (getD_lt hi), hd i hi⟩)
def chk (l : List Sg) : Int := if l.all (fun s => decide ((s.length : Int) ≤ 40)) = true then (if l.all isSigns = true then 0 else 4) else 3
theorem letters_step {c : List Sg} {t : List Int} {k : Nat} (hk : k < t.length) : letters c (t.take k) ++ [c.getD (t.getD k 0).toNat []] = letters c (t.take (k + 1)) := by
  rw [take_succ_getD hk]; simp [letters]
def send (c : List Sg) (t : List Int) : Sg × Int := if ¬ fault c = 0 then ([], fault c) else if 5 < t.length then ([], 3) else if isText c t = true then (signs c t, 0) else ([], 2)

theorem el9 : Elem Tryz.prog 9 (vstr []) 1 16 := elem_of (by kernel_rfl) rfl (by decide)
theorem thin_ret (a : Option Addr) (cc : Nat) (c : List Sg) (s : Sg) (w : World) (hrow : Row w a c.length cc 1 (c.map vstr)) (hcn : c.length ≤ 2097152) (hs : s.length ≤ 2097152) : Ret Tryz.prog 6 [.agg ⟨[.slice a c.length cc]⟩, vstr s] w (fun v w' => v = .bool (thin c s) ∧ Ext w w') := by
 have hB := Below.refl w.heap.size w
 have hsz : w.heap.size ≤ w.heap.size := Nat.le_refl _
 refine ret_of_runs (args := [_, _]) Tryz.func6 rfl (Nat.le_of_ble_eq_true rfl) (by kernel_rfl) (r_seq (r_region' (l_o (o_box rfl rfl rfl ?_))))
 intro b1 w1 hzl1 hzr1 _ hb1 hE1
 have hbs_b1 : w.heap.size ≤ b1 := Nat.le_trans hsz hzl1
 replace hB := below_ext hB hE1 hsz
 replace hsz := Nat.le_trans hsz hE1.size
 refine l_q (qab rfl rfl) (l_nil (r_seq (r_seq (r_region' (l_q (qai rfl rfl) (l_nil (r_block (r_rounds (α := Nat) (fun k e wl => Knows e [(1, vstr s), (2, ptr b1 0), (5, vint (k : Int))] ∧ (k ≤ c.length) ∧ (k ≤ 10) ∧ (∀ j, j < k → (c.getD j []).length ≤ 9) ∧ (Blk wl b1 [.slice a c.length cc]) ∧ (w.heap.size ≤ wl.heap.size) ∧ (Below w.heap.size w wl)) (fun k => c.length - k) 0 ?_ ?_))))))))
 ·
  exact ⟨⟨rfl, rfl, rfl, trivial⟩, (Nat.zero_le _), (by omega), (fun i hi => absurd hi (Nat.not_lt_zero _)), hb1, hsz, hB⟩
 ·
  rintro k el2 wl2 ⟨hkn, hkk, hk10, hq, hb1, hsz, hB⟩ ih2
  obtain ⟨e2, rfl⟩ := knows_env hkn
  refine r_seq (r_seq (r_region' (l_q (qmi rfl rfl) (l_q (q_fieldAddr (o' := 0) rfl fld30_0 rfl) (l_q (q_load Tryz.isAgg28 rfl ((hb1.has (o := 0) rfl)) rfl) (l_q (q_len rfl Tryz.underlying28 rfl rfl) (l_q (q_lss rfl rfl rfl) (l_q (qmb rfl rfl) (l_part 11 rfl (fun hc3 => ?_) (fun hc3 => ?_))))))))))
  ·
   replace hc3 := dt hc3
   refine l_q (qmi rfl rfl) (l_q (q_lss rfl rfl rfl) (l_q (q_pick_t (v := .bool _) rfl rfl rfl) (l_nil (r_cond rfl (fun hc4 => ?_) (fun hc4 => ?_)))))
   ·
    replace hc4 := dt hc4
    refine r_skip (r_seq (r_block (r_seq (r_region' (l_q (q_fieldAddr (o' := 0) rfl fld30_0 rfl) (l_q (q_load Tryz.isAgg28 rfl ((hb1.has (o := 0) rfl)) rfl) (l_q (qmi rfl rfl) ?_)))))))
    obtain ⟨b5, o5, ha5, hh5⟩ := (hrow.below hB).at1 k ((c).getD k []) (getD_some (by omega))
    refine l_q (q_indexAddr1 Tryz.underlying28 Tryz.sizeOf9 rfl ha5 rfl (by omega) rfl) (l_q (q_load Tryz.isAgg9 rfl (hh5) rfl) (l_q (q_len_str rfl Tryz.underlying9 rfl rfl) (l_q (q_gtr rfl rfl rfl) (l_nil (r_forget [(1, .string _), (2, .pointer _), (5, .int _ _), (23, .bool _)] ⟨rfl, rfl, rfl, rfl, trivial⟩ (fun e6 => (r_cond rfl (fun hc7 => ?_) (fun hc7 => ?_))))))))
    ·
     replace hc7 := dt hc7
     refine r_seq (r_region' (l_q (qab rfl rfl) (l_nil (r_ret_ (vs := [.bool _]) rfl Tryz.func6 rfl (.nil _) ⟨rfl, trivial⟩ ?_))))
     exact ⟨vbool_eq (thin_bad (k := k) (by omega) (by omega)).symm, Ext.of_below hB⟩
    ·
     replace hc7 := dlt hc7
     refine r_skip (r_inBlock (r_region' (l_q (qmi rfl rfl) (l_q (q_add rfl rfl (by omega) rfl) (l_q (qai rfl rfl) (l_nil ?_))))))
     exact ih2 (k + 1) _ _ ⟨⟨rfl, rfl, by first | rfl | exact vint_eq (by omega), trivial⟩, (by omega), (by omega), (fun j hj => by rcases Nat.lt_succ_iff_lt_or_eq.1 hj with h | h; exact hq j h; subst h; omega), hb1, hsz, hB⟩ (by first | omega | (dsimp only; omega))
   ·
    replace hc4 := dlt hc4
    refine r_exit rfl (r_seq (r_region' (l_q (q_fieldAddr (o' := 0) rfl fld30_0 rfl) (l_q (q_load Tryz.isAgg28 rfl ((hb1.has (o := 0) rfl)) rfl) (l_q (q_len rfl Tryz.underlying28 rfl rfl) (l_q (q_leq rfl rfl rfl) (l_q (qmb rfl rfl) (l_part 28 rfl (fun hc8 => ?_) (fun hc8 => ?_)))))))))
    ·
     replace hc8 := dt hc8
     refine l_q (q_move (v := .string _) rfl rfl) (l_q (q_len_str rfl Tryz.underlying9 rfl rfl) (l_q (q_leq rfl rfl rfl) (l_q (q_pick_t (v := .bool _) rfl rfl rfl) (l_q (qab rfl rfl) (l_nil (r_forget [(4, .bool _)] ⟨rfl, trivial⟩ (fun e9 => (r_ret_ (vs := [.bool _]) rfl Tryz.func6 rfl (.nil _) ⟨rfl, trivial⟩ ?_))))))))
     exact ⟨vbool_eq (by rw [thin_end (k := k) (by omega) (by omega) hq]; first | rw [decide_eq_true (by omega : (c.length : Int) ≤ 9), Bool.true_and] | rw [decide_eq_false (by omega : ¬ (c.length : Int) ≤ 9), Bool.false_and]), Ext.of_below hB⟩
    ·
     replace hc8 := dle hc8
     refine l_q (q_skip rfl) (l_q (q_skip rfl) (l_q (q_skip rfl) (l_q (q_pick_f (v := .bool _) rfl rfl rfl) (l_q (qab rfl rfl) (l_nil (r_forget [(4, .bool _)] ⟨rfl, trivial⟩ (fun e10 => (r_ret_ (vs := [.bool _]) rfl Tryz.func6 rfl (.nil _) ⟨rfl, trivial⟩ ?_))))))))
     exact ⟨vbool_eq (by rw [thin_end (k := k) (by omega) (by omega) hq]; first | rw [decide_eq_true (by omega : (c.length : Int) ≤ 9), Bool.true_and] | rw [decide_eq_false (by omega : ¬ (c.length : Int) ≤ 9), Bool.false_and]), Ext.of_below hB⟩
  ·
   replace hc3 := dlt hc3
   refine l_q (q_skip rfl) (l_q (q_skip rfl) (l_q (q_pick_f (v := .bool _) rfl rfl rfl) (l_nil (r_cond_f rfl (r_exit rfl (r_seq (r_region' (l_q (q_fieldAddr (o' := 0) rfl fld30_0 rfl) (l_q (q_load Tryz.isAgg28 rfl ((hb1.has (o := 0) rfl)) rfl) (l_q (q_len rfl Tryz.underlying28 rfl rfl) (l_q (q_leq rfl rfl rfl) (l_q (qmb rfl rfl) (l_part 28 rfl (fun hc11 => ?_) (fun hc11 => ?_))))))))))))))
   ·
    replace hc11 := dt hc11
    refine l_q (q_move (v := .string _) rfl rfl) (l_q (q_len_str rfl Tryz.underlying9 rfl rfl) (l_q (q_leq rfl rfl rfl) (l_q (q_pick_t (v := .bool _) rfl rfl rfl) (l_q (qab rfl rfl) (l_nil (r_forget [(4, .bool _)] ⟨rfl, trivial⟩ (fun e12 => (r_ret_ (vs := [.bool _]) rfl Tryz.func6 rfl (.nil _) ⟨rfl, trivial⟩ ?_))))))))
    exact ⟨vbool_eq (by rw [thin_end (k := k) (by omega) (by omega) hq]; first | rw [decide_eq_true (by omega : (c.length : Int) ≤ 9), Bool.true_and] | rw [decide_eq_false (by omega : ¬ (c.length : Int) ≤ 9), Bool.false_and]), Ext.of_below hB⟩
   ·
    replace hc11 := dle hc11
    refine l_q (q_skip rfl) (l_q (q_skip rfl) (l_q (q_skip rfl) (l_q (q_pick_f (v := .bool _) rfl rfl rfl) (l_q (qab rfl rfl) (l_nil (r_forget [(4, .bool _)] ⟨rfl, trivial⟩ (fun e13 => (r_ret_ (vs := [.bool _]) rfl Tryz.func6 rfl (.nil _) ⟨rfl, trivial⟩ ?_))))))))
    exact ⟨vbool_eq (by rw [thin_end (k := k) (by omega) (by omega) hq]; first | rw [decide_eq_true (by omega : (c.length : Int) ≤ 9), Bool.true_and] | rw [decide_eq_false (by omega : ¬ (c.length : Int) ≤ 9), Bool.false_and]), Ext.of_below hB⟩
theorem checkCode_ret (a : Option Addr) (cc : Nat) (c : List Sg) (w : World) (hrow : Row w a c.length cc 1 (c.map vstr)) (hcn : c.length ≤ 2097152) (hcl : ∀ s ∈ c, s.length ≤ 2097152) : Ret Tryz.prog 42 [.agg ⟨[.slice a c.length cc]⟩] w (fun v w' => v = vint (fault c) ∧ Ext w w') := by
 have hB := Below.refl w.heap.size w
 have hsz : w.heap.size ≤ w.heap.size := Nat.le_refl _
 refine ret_of_runs (args := [_]) Tryz.func42 rfl (Nat.le_of_ble_eq_true rfl) (by kernel_rfl) (r_seq (r_region' (l_o (o_box rfl rfl rfl ?_))))
 intro b1 w1 hzl1 hzr1 _ hb1 hE1
 have hbs_b1 : w.heap.size ≤ b1 := Nat.le_trans hsz hzl1
 replace hB := below_ext hB hE1 hsz
 replace hsz := Nat.le_trans hsz hE1.size
 refine l_q (qai rfl rfl) (l_nil (r_seq (r_region' (l_q (q_build (v := .agg ⟨[vstr [46, 45], vint 4]⟩) (fun w => by kernel_rfl) rfl) (l_q (q_makeFunc (v := .func _ ⟨[_]⟩ ⟨[]⟩) rfl rfl) (l_q (q_assign (v := .func _ _ _) rfl rfl) (l_nil (r_seq (r_seq (r_region' (l_q (q_fieldAddr (o' := 0) rfl fld38_0 rfl) (l_q (q_load Tryz.isAgg28 rfl ((hb1.has (o := 0) rfl)) rfl) (l_q (q_len rfl Tryz.underlying28 rfl rfl) (l_q (q_gtr rfl rfl rfl) (l_nil (r_cond rfl (fun hc2 => ?_) (fun hc2 => ?_)))))))))))))))))
 ·
  replace hc2 := dt hc2
  refine r_seq (r_region' (l_q (qai rfl rfl) (l_nil (r_ret_ (vs := [.int _ _]) rfl Tryz.func42 rfl (.nil _) ⟨rfl, trivial⟩ ?_))))
  exact ⟨vint_eq (fault_many (by omega)).symm, Ext.of_below hB⟩
 ·
  replace hc2 := dlt hc2
  have h6 : c.length ≤ 6 := by omega
  refine r_skip (r_seq (r_seq (r_region' (l_q (q_fieldAddr (o' := 0) rfl fld38_0 rfl) (l_q (q_load Tryz.isAgg28 rfl ((hb1.has (o := 0) rfl)) rfl) (l_q (q_len rfl Tryz.underlying28 rfl rfl) (l_q (q_eql rfl rfl rfl) (l_q (qmb rfl rfl) (l_part 16 rfl (fun hc3 => ?_) (fun hc3 => ?_))))))))))
  ·
   replace hc3 := dt hc3
   refine l_q (q_skip rfl) (l_q (q_skip rfl) (l_q (q_skip rfl) (l_q (q_skip rfl) (l_q (q_skip rfl) (l_q (q_pick_t (v := .bool _) rfl rfl rfl) (l_nil (r_forget [(1, .pointer _), (22, .bool _)] ⟨rfl, rfl, trivial⟩ (fun e4 => (r_cond_t rfl (r_seq (r_region' (l_q (qai rfl rfl) (l_nil (r_ret_ (vs := [.int _ _]) rfl Tryz.func42 rfl (.nil _) ⟨rfl, trivial⟩ ?_))))))))))))))
   exact ⟨vint_eq (fault_none h6 (by first | exact .inl (by omega) | exact .inr hbad)).symm, Ext.of_below hB⟩
  ·
   replace hc3 := df hc3
   refine l_q (q_fieldAddr (o' := 0) rfl fld38_0 rfl) (l_q (q_load Tryz.isAgg28 rfl ((hb1.has (o := 0) rfl)) rfl) (l_q (q_move (v := .func _ _ _) rfl rfl) (l_o (o_call Tryz.call78 rfl (all_string_of [] Tryz.call77 (hrow.below hB) (fun w' hw x hx => letter_ret [46, 45] x 4 _ (Nat.le_trans (hcl x hx) (by decide))) (by omega)) rfl ?_))))
   rintro _ w5 ⟨rfl, hE5⟩
   replace hB := below_ext hB hE5 hsz
   replace hb1 := hb1.ext hE5
   replace hsz := Nat.le_trans hsz hE5.size
   refine l_q (q_not rfl rfl) (l_q (q_pick_f (v := .bool _) rfl rfl rfl) (l_nil (r_forget [(1, .pointer _), (22, .bool _)] ⟨rfl, rfl, trivial⟩ (fun e6 => (r_cond rfl (fun hc7 => ?_) (fun hc7 => ?_))))))
   ·
    replace hc7 := nt hc7
    have hbad := hc7
    refine r_seq (r_region' (l_q (qai rfl rfl) (l_nil (r_ret_ (vs := [.int _ _]) rfl Tryz.func42 rfl (.nil _) ⟨rfl, trivial⟩ ?_))))
    exact ⟨vint_eq (fault_none h6 (by first | exact .inl (by omega) | exact .inr hbad)).symm, Ext.of_below hB⟩
   ·
    replace hc7 := nf hc7
    have hgood := hc7
    refine r_skip (r_seq (r_seq (r_region' (l_q (q_fieldAddr (o' := 0) rfl fld38_0 rfl) (l_q (q_load Tryz.isAgg28 rfl ((hb1.has (o := 0) rfl)) rfl) (l_q (q_len rfl Tryz.underlying28 rfl rfl) (l_q (qmi rfl rfl) (l_nil (r_block (r_rounds (α := Nat) (fun k e wl => Knows e [(1, ptr b1 0), (24, .slice a c.length cc), (25, vint (c.length : Int)), (26, vint (k : Int))] ∧ (k ≤ c.length) ∧ (∀ j, j < k → distinctAt c j = true) ∧ (Blk wl b1 [.slice a c.length cc]) ∧ (w.heap.size ≤ wl.heap.size) ∧ (Below w.heap.size w wl)) (fun k => c.length - k) 0 ?_ ?_))))))))))
    ·
     exact ⟨⟨rfl, rfl, rfl, rfl, trivial⟩, (Nat.zero_le _), (fun i hi => absurd hi (Nat.not_lt_zero _)), hb1, hsz, hB⟩
    ·
     rintro k el8 wl8 ⟨hkn, hkk, hq, hb1, hsz, hB⟩ ih8
     obtain ⟨e8, rfl⟩ := knows_env hkn
     refine r_seq (r_region' (l_q (q_lss rfl rfl rfl) (l_nil (r_seq (r_cond rfl (fun hc9 => ?_) (fun hc9 => ?_))))))
     ·
      replace hc9 := dt hc9
      refine r_skip (r_seq (r_block (r_seq (r_region' (l_q (qmi rfl rfl) ?_)))))
      obtain ⟨b10, o10, ha10, hh10⟩ := (hrow.below hB).at1 k ((c).getD k []) (getD_some (by omega))
      refine l_q (q_indexAddr1 Tryz.underlying28 Tryz.sizeOf9 rfl ha10 rfl (by omega) rfl) (l_q (q_load Tryz.isAgg9 rfl (hh10) rfl) (l_q (qai rfl rfl) (l_q (q_assign (v := .string _) rfl rfl) (l_nil (r_seq (r_region' (l_q (q_fieldAddr (o' := 0) rfl fld38_0 rfl) (l_q (q_load Tryz.isAgg28 rfl ((hb1.has (o := 0) rfl)) rfl) (l_q (qmi rfl rfl) ?_)))))))))
      obtain ⟨a11, c11, hr11, hv11⟩ := slice_ex_hi (f := vstr) (xs := c) ((k : Int)) (hrow.below hB) (by omega)
      refine l_q ((q_slice (lo := 0) (hi := (k : Int)) Tryz.underlying28 Tryz.sizeOf9 rfl rfl rfl (by omega) (hrow.below hB).2.1 rfl).cast hv11) (l_q (q_move (v := .string _) rfl rfl) (l_o (o_call Tryz.call79 rfl (contains_str_ret _ _ _ _ _ hr11 (by rw [List.length_take]; omega)) rfl ?_)))
      rintro _ w12 ⟨rfl, rfl⟩
      refine l_nil (r_forget [(1, .pointer _), (24, .slice _ _ _), (25, .int _ _), (26, .int _ _), (36, .bool _)] ⟨rfl, rfl, rfl, rfl, rfl, trivial⟩ (fun e13 => (r_cond rfl (fun hc14 => ?_) (fun hc14 => ?_))))
      ·
       refine r_seq (r_region' (l_q (qai rfl rfl) (l_nil (r_ret_ (vs := [.int _ _]) rfl Tryz.func42 rfl (.nil _) ⟨rfl, trivial⟩ ?_))))
       exact ⟨vint_eq (fault_bad (i := k) h6 (by omega) (.inr (by unfold distinctAt; simp_all))).symm, Ext.of_below hB⟩
      ·
       refine r_skip (r_inBlock (r_region' (l_q (q_add rfl rfl (by omega) rfl) (l_q (qmi rfl rfl) (l_nil ?_)))))
       exact ih8 (k + 1) _ _ ⟨⟨rfl, rfl, rfl, by first | rfl | exact vint_eq (by omega), trivial⟩, (by omega), (fun j hj => by rcases Nat.lt_succ_iff_lt_or_eq.1 hj with h | h; exact hq j h; subst h; (unfold distinctAt; simp_all)), hb1, hsz, hB⟩ (by first | omega | (dsimp only; omega))
     ·
      replace hc9 := dlt hc9
      refine r_exit rfl (r_seq (r_region' (l_q (qai rfl rfl) (l_nil (r_ret_ (vs := [.int _ _]) rfl Tryz.func42 rfl (.nil _) ⟨rfl, trivial⟩ ?_)))))
      exact ⟨vint_eq (fault_all h6 (by omega) hgood (fun j hj => hq j (by omega))).symm, Ext.of_below hB⟩
theorem checkSigns_ret (a : Option Addr) (cc : Nat) (l : List Sg) (w : World) (hrow : Row w a l.length cc 1 (l.map vstr)) (hn : l.length ≤ 2097152) (hll : ∀ s ∈ l, s.length ≤ 2097152) : Ret Tryz.prog 120 [.slice a l.length cc] w (fun v w' => v = vint (chk l) ∧ Ext w w') := by
 have hB := Below.refl w.heap.size w
 have hsz : w.heap.size ≤ w.heap.size := Nat.le_refl _
 refine ret_of_runs (args := [_]) Tryz.func120 rfl (Nat.le_of_ble_eq_true rfl) (by kernel_rfl) (r_seq (r_region' (l_q (qai rfl rfl) (l_nil (r_seq (r_seq (r_region' (l_q (qms rfl rfl) (l_o (o_call Tryz.call78 rfl (all_string_of [] Tryz.call153 (hrow.below hB) (fun w' hw x hx => pureExt (checkSigns1_ret _ _)) (by omega)) rfl ?_))))))))))
 rintro _ w1 ⟨rfl, hE1⟩
 replace hB := below_ext hB hE1 hsz
 replace hsz := Nat.le_trans hsz hE1.size
 refine l_q (q_not rfl rfl) (l_nil (r_cond rfl (fun hc2 => ?_) (fun hc2 => ?_)))
 ·
  replace hc2 := nt hc2
  have h1 := hc2
  refine r_seq (r_region' (l_q (qai rfl rfl) (l_nil (r_ret_ (vs := [.int _ _]) rfl Tryz.func120 rfl (.nil _) ⟨rfl, trivial⟩ ?_))))
  exact ⟨vint_eq (by rw [chk, if_neg (fun h => Bool.false_ne_true (h1.symm.trans h))]), Ext.of_below hB⟩
 ·
  replace hc2 := nf hc2
  have h1 := hc2
  refine r_skip (r_seq (r_region' (l_q (q_build (v := .agg ⟨[vstr [46, 45, 32], vint 0]⟩) (fun w => by kernel_rfl) rfl) (l_q (q_makeFunc (v := .func _ ⟨[_]⟩ ⟨[]⟩) rfl rfl) (l_o (o_alloc Tryz.zeroValue170 rfl rfl ?_))))))
  intro b3 w3 hzl3 hzr3 _ hb3 hE3
  have hbs_b3 : w.heap.size ≤ b3 := Nat.le_trans hsz hzl3
  replace hB := below_ext hB hE3 hsz
  replace hsz := Nat.le_trans hsz hE3.size
  refine l_o (o_store (vs := [.func (.func 113) ⟨[.agg ⟨[vstr [46, 45, 32], vint 0]⟩]⟩ ⟨[]⟩]) (cs' := [.func (.func 113) ⟨[.agg ⟨[vstr [46, 45, 32], vint 0]⟩]⟩ ⟨[]⟩]) Tryz.sizeOf170 rfl rfl rfl rfl hb3 (Nat.le_of_ble_eq_true rfl) rfl rfl ?_)
  intro w4 hz4 hb3 hG4
  replace hB := below_upd hB hG4 hsz (by omega)
  replace hsz : w.heap.size ≤ w4.heap.size := by rw [hz4]; exact hsz
  refine l_nil (r_seq (r_seq (r_region' (l_q (qms rfl rfl) (l_q (q_makeFunc (v := .func _ ⟨[]⟩ ⟨[_]⟩) rfl rfl) (l_o (o_call Tryz.call78 rfl (all_string_of [] Tryz.call154 (hrow.below hB) (fun w' hw x hx => checkSigns2_ret _ _ _ _ _ (hb3.ext hw) (Nat.le_trans (hll x hx) (by decide))) (by omega)) rfl ?_)))))))
  rintro _ w5 ⟨rfl, hE5⟩
  replace hB := below_ext hB hE5 hsz
  replace hsz := Nat.le_trans hsz hE5.size
  refine l_q (q_not rfl rfl) (l_nil (r_forget [(12, .bool _)] ⟨rfl, trivial⟩ (fun e6 => (r_cond rfl (fun hc7 => ?_) (fun hc7 => ?_)))))
  ·
   replace hc7 := nt hc7
   have h2 : l.all isSigns = false := hc7
   refine r_seq (r_region' (l_q (qai rfl rfl) (l_nil (r_ret_ (vs := [.int _ _]) rfl Tryz.func120 rfl (.nil _) ⟨rfl, trivial⟩ ?_))))
   exact ⟨vint_eq (by rw [chk, if_pos h1, if_neg (fun h => Bool.false_ne_true (h2.symm.trans h))]), Ext.of_below hB⟩
  ·
   replace hc7 := nf hc7
   have h2 : l.all isSigns = true := hc7
   refine r_skip (r_seq (r_region' (l_q (qai rfl rfl) (l_nil (r_ret_ (vs := [.int _ _]) rfl Tryz.func120 rfl (.nil _) ⟨rfl, trivial⟩ ?_)))))
   exact ⟨vint_eq (by rw [chk, if_pos h1, if_pos h2]), Ext.of_below hB⟩
theorem codeSigns_ret (a : Option Addr) (cc : Nat) (c : List Sg) (ta : Option Addr) (tc : Nat) (t : List Int) (w : World) (hrow : Row w a c.length cc 1 (c.map vstr)) (hcn : c.length ≤ 2097152) (ht : Row w ta t.length tc 1 (t.map vint)) (htn : t.length ≤ 2097152) (hfc : fault c = 0) (htx : isText c t = true) : Ret Tryz.prog 119 [.agg ⟨[.slice a c.length cc]⟩, .slice ta t.length tc] w (fun v w' => v = vstr (signs c t) ∧ Ext w w') := by
 have hB := Below.refl w.heap.size w
 have hsz : w.heap.size ≤ w.heap.size := Nat.le_refl _
 refine ret_of_runs (args := [_, _]) Tryz.func119 rfl (Nat.le_of_ble_eq_true rfl) (by kernel_rfl) (r_seq (r_region' (l_o (o_box rfl rfl rfl ?_))))
 intro b1 w1 hzl1 hzr1 _ hb1 hE1
 have hbs_b1 : w.heap.size ≤ b1 := Nat.le_trans hsz hzl1
 replace hB := below_ext hB hE1 hsz
 replace hsz := Nat.le_trans hsz hE1.size
 refine l_q (q_assign (v := .string _) rfl rfl) (l_nil (r_seq (r_region' (l_q (qas rfl rfl) (l_nil (r_seq (r_seq (r_region' (l_q (qms rfl rfl) (l_q (q_len rfl Tryz.underlying31 rfl rfl) (l_q (qmi rfl rfl) (l_nil (r_block (r_rounds (α := Nat × (Option Addr) × Nat) (fun ⟨k, oa, oc⟩ e wl => Knows e [(2, ptr b1 0), (5, .slice oa ((letters c (t.take k)).length) oc), (8, .slice ta t.length tc), (9, vint (t.length : Int)), (10, vint (k : Int))] ∧ (k ≤ t.length) ∧ (wl.ownsRow (b1 + 1) 9 1 (.slice oa ((letters c (t.take k)).length) oc) ((letters c (t.take k)).length) ((letters c (t.take k)).map vstr)) ∧ (Blk wl b1 [.slice a c.length cc]) ∧ (w.heap.size ≤ wl.heap.size) ∧ (Below w.heap.size w wl)) (fun ⟨k, oa, oc⟩ => t.length - k) (0, none, 0) ?_ ?_))))))))))))))
 ·
  exact ⟨⟨rfl, rfl, rfl, rfl, rfl, trivial⟩, (Nat.zero_le _), (World.ownsRow_nil _ _ _ _), hb1, hsz, hB⟩
 ·
  rintro ⟨k, oa, oc⟩ el2 wl2 ⟨hkn, hkk, ho, hb1, hsz, hB⟩ ih2
  obtain ⟨e2, rfl⟩ := knows_env hkn
  refine r_seq (r_region' (l_q (q_lss rfl rfl rfl) (l_nil (r_seq (r_cond rfl (fun hc3 => ?_) (fun hc3 => ?_))))))
  ·
   replace hc3 := dt hc3
   have hkl : k < t.length := by omega
   have hg := isText_get htx hkl
   refine r_skip (r_seq (r_block (r_seq (r_region' ?_))))
   obtain ⟨b4, o4, ha4, hh4⟩ := (ht.below hB).at1 k ((t).getD k 0) (getD_some (by omega))
   refine l_q (q_indexAddr1 Tryz.underlying31 Tryz.sizeOf3 rfl ha4 rfl (by omega) rfl) (l_q (q_load Tryz.isAgg3 rfl (hh4) rfl) (l_q (qai rfl rfl) (l_nil (r_region' (l_q (qms rfl rfl) (l_q (q_fieldAddr (o' := 0) rfl fld38_0 rfl) (l_q (q_load Tryz.isAgg28 rfl ((hb1.has (o := 0) rfl)) rfl) (l_q (qmi rfl rfl) ?_))))))))
   obtain ⟨b5, o5, ha5, hh5⟩ := (hrow.below hB).at1 ((t).getD k 0).toNat ((c).getD ((t).getD k 0).toNat []) (getD_some (by omega))
   refine l_q (q_indexAddr1 Tryz.underlying28 Tryz.sizeOf9 rfl ha5 rfl (by omega) rfl) (l_q (q_load Tryz.isAgg9 rfl (hh5) rfl) ?_)
   have hbl_b1 := hb1.lt
   refine l_o (o_buildSlice (el := 9) (cs := [vstr ((c).getD ((t).getD k 0).toNat [])]) Tryz.underlying28 el9 (by decide) (by kernel_rfl) rfl (by decide) rfl ?_)
   intro b6 w6 hzl6 hzr6 _ hb6 hE6 ho6
   have hbs_b6 : w.heap.size ≤ b6 := Nat.le_trans hsz hzl6
   replace hB := below_ext hB hE6 hsz
   replace hb1 := hb1.ext hE6
   replace ho := own_ext ho hE6
   replace hsz := Nat.le_trans hsz hE6.size
   replace ho6 := own_mono ho6 (show b1 + 1 ≤ _ by omega)
   have hbl_b1 := hb1.lt
   refine l_o (o_append_map (f := vstr) (letters c (t.take k)) ([(c).getD ((t).getD k 0).toNat []]) Tryz.underlying28 el9 rfl rfl ho rfl (Row.of_owns ho6) (fun _ => rfl) (by simp only [letters, List.length_map, List.length_take, List.length_cons, List.length_nil]; omega) (by omega) rfl ?_)
   intro a7 c7 w7 hz7 ho7 hG7
   replace hB := below_own hB hG7 ho (by omega) hsz
   replace hsz := Nat.le_trans hsz hG7.size
   replace hb1 := hb1.step hG7 (own_ne ho (by omega))
   refine l_q (qas rfl rfl) (l_nil (r_forget [(2, .pointer _), (5, .slice _ _ _), (8, .slice _ _ _), (9, .int _ _), (10, .int _ _)] ⟨rfl, rfl, rfl, rfl, rfl, trivial⟩ (fun e8 => (r_inBlock (r_region' (l_q (q_add rfl rfl (by omega) rfl) (l_q (qmi rfl rfl) (l_nil ?_))))))))
   have hst := letters_step (c := c) hkl
   exact ih2 (k + 1, a7, c7) _ _ ⟨⟨rfl, (congrArg (fun z => Value.slice _ (List.length z) _) hst), rfl, rfl, by first | rfl | exact vint_eq (by omega), trivial⟩, (by omega), (hst ▸ ho7), hb1, hsz, hB⟩ (by first | omega | (dsimp only; omega))
  ·
   replace hc3 := dlt hc3
   refine r_exit rfl (r_seq (r_region' (l_q (qms rfl rfl) (l_o (o_call Tryz.call152 rfl (join_ret (Row.of_owns ho) (Nat.le_trans (signs_len hfc (isText_take htx k)) (by rw [List.length_take]; omega)) (by rw [letters, List.length_map, List.length_take]; omega)) rfl ?_)))))
   rintro _ w9 ⟨rfl, hE9⟩
   replace hB := below_ext hB hE9 hsz
   replace hsz := Nat.le_trans hsz hE9.size
   refine l_q (q_assign (v := .string _) rfl rfl) (l_nil (r_ret_ (vs := [.string _]) rfl Tryz.func119 rfl (.nil _) ⟨rfl, trivial⟩ ?_))
   exact ⟨vstr_eq (by rw [List.take_of_length_le (by omega)]; rfl), Ext.of_below hB⟩
theorem send_ret (a : Option Addr) (cc : Nat) (c : List Sg) (ta : Option Addr) (tc : Nat) (t : List Int) (w : World) (hrow : Row w a c.length cc 1 (c.map vstr)) (hcn : c.length ≤ 2097152) (ht : Row w ta t.length tc 1 (t.map vint)) (htn : t.length ≤ 2097152) (hcl : ∀ s ∈ c, s.length ≤ 2097152) : Ret Tryz.prog 80 [.agg ⟨[.slice a c.length cc]⟩, .slice ta t.length tc] w (fun v w' => v = .tuple ⟨[vstr ((send c t).1), vint ((send c t).2)]⟩ ∧ Ext w w') := by
 have hB := Below.refl w.heap.size w
 have hsz : w.heap.size ≤ w.heap.size := Nat.le_refl _
 refine ret_of_runs (args := [_, _]) Tryz.func80 rfl (Nat.le_of_ble_eq_true rfl) (by kernel_rfl) (r_seq (r_region' (l_o (o_box rfl rfl rfl ?_))))
 intro b1 w1 hzl1 hzr1 _ hb1 hE1
 have hbs_b1 : w.heap.size ≤ b1 := Nat.le_trans hsz hzl1
 replace hB := below_ext hB hE1 hsz
 replace hsz := Nat.le_trans hsz hE1.size
 refine l_q (q_assign (v := .string _) rfl rfl) (l_q (qai rfl rfl) (l_nil (r_seq (r_seq (r_region' (l_q (q_load_agg (n := 1) Tryz.isAgg38 Tryz.sizeOf38 rfl ((hb1.cells' (cs' := [_]) 0 1 rfl)) rfl rfl) (l_o (o_call Tryz.call42 rfl (checkCode_ret _ _ _ _ (hrow.below hB) (by omega) (by assumption)) rfl ?_))))))))
 rintro _ w2 ⟨rfl, hE2⟩
 replace hB := below_ext hB hE2 hsz
 replace hb1 := hb1.ext hE2
 replace hsz := Nat.le_trans hsz hE2.size
 refine l_q (qai rfl rfl) (l_nil (r_seq (r_region' (l_q (qmi rfl rfl) (l_q (q_neq rfl rfl rfl) (l_nil (r_cond rfl (fun hc3 => ?_) (fun hc3 => ?_))))))))
 ·
  replace hc3 := df (nt hc3)
  refine r_seq (r_region' (l_q (qmi rfl rfl) (l_q (q_assign (v := .string _) rfl rfl) (l_q (qai rfl rfl) (l_nil (r_ret_ (vs := [.string _, .int _ _]) rfl Tryz.func80 rfl (.nil _) ⟨rfl, rfl, trivial⟩ ?_))))))
  exact ⟨tup2 (vstr_eq (by rw [send, if_pos (by assumption)])) (vint_eq (by rw [send, if_pos (by assumption)])), Ext.of_below hB⟩
 ·
  replace hc3 := dt (nf hc3)
  have hfc := hc3
  refine r_skip (r_seq (r_block (r_seq (r_region' (l_q (qms rfl rfl) (l_q (q_len rfl Tryz.underlying31 rfl rfl) (l_q (q_gtr rfl rfl rfl) (l_q (qab rfl rfl) (l_nil (r_forget [(1, .slice _ _ _), (2, .pointer _), (12, .bool _)] ⟨rfl, rfl, rfl, trivial⟩ (fun e4 => (r_cond rfl (fun hc5 => ?_) (fun hc5 => ?_)))))))))))))
  ·
   replace hc5 := dt hc5
   refine r_seq (r_region' (l_q (q_assign (v := .string _) rfl rfl) (l_q (qai rfl rfl) (l_nil (r_ret_ (vs := [.string _, .int _ _]) rfl Tryz.func80 rfl (.nil _) ⟨rfl, rfl, trivial⟩ ?_)))))
   exact ⟨tup2 (vstr_eq (by rw [send, if_neg (by omega), if_pos (by omega)])) (vint_eq (by rw [send, if_neg (by omega), if_pos (by omega)])), Ext.of_below hB⟩
  ·
   replace hc5 := dlt hc5
   refine r_seq (r_region' (l_q (qms rfl rfl) (l_q (q_makeFunc (v := .func _ ⟨[]⟩ ⟨[_]⟩) rfl rfl) (l_o (o_call Tryz.call117 rfl (all_int_of 0 Tryz.call118 (ht.below hB) (fun w' hw x hx => pureExt (send1_ret _ _ _ _ _ _ (hb1.ext hw) (by omega))) (by omega)) rfl ?_)))))
   rintro _ w6 ⟨rfl, hE6⟩
   replace hB := below_ext hB hE6 hsz
   replace hb1 := hb1.ext hE6
   replace hsz := Nat.le_trans hsz hE6.size
   refine l_q (q_not rfl rfl) (l_q (qab rfl rfl) (l_nil (r_cond rfl (fun hc7 => ?_) (fun hc7 => ?_))))
   ·
    replace hc7 := nt hc7
    have htx : isText c t = false := hc7
    refine r_seq (r_region' (l_q (q_assign (v := .string _) rfl rfl) (l_q (qai rfl rfl) (l_nil (r_ret_ (vs := [.string _, .int _ _]) rfl Tryz.func80 rfl (.nil _) ⟨rfl, rfl, trivial⟩ ?_)))))
    exact ⟨tup2 (vstr_eq (by rw [send, if_neg (by omega), if_neg (by omega), if_neg (by rw [htx]; exact Bool.false_ne_true)])) (vint_eq (by rw [send, if_neg (by omega), if_neg (by omega), if_neg (by rw [htx]; exact Bool.false_ne_true)])), Ext.of_below hB⟩
   ·
    replace hc7 := nf hc7
    have htx : isText c t = true := hc7
    refine r_skip (r_inBlock (r_seq (r_region' (l_q (q_load_agg (n := 1) Tryz.isAgg38 Tryz.sizeOf38 rfl ((hb1.cells' (cs' := [_]) 0 1 rfl)) rfl rfl) (l_q (qms rfl rfl) (l_o (o_call Tryz.call119 rfl (codeSigns_ret _ _ _ _ _ _ _ (hrow.below hB) (by omega) (ht.below hB) (by omega) hfc htx) rfl ?_)))))))
    rintro _ w8 ⟨rfl, hE8⟩
    replace hB := below_ext hB hE8 hsz
    replace hsz := Nat.le_trans hsz hE8.size
    refine l_q (q_assign (v := .string _) rfl rfl) (l_q (qai rfl rfl) (l_nil (r_forget [(4, .string _), (5, .int _ _)] ⟨rfl, rfl, trivial⟩ (fun e9 => (r_ret_ (vs := [.string _, .int _ _]) rfl Tryz.func80 rfl (.nil _) ⟨rfl, rfl, trivial⟩ ?_)))))
    exact ⟨tup2 (vstr_eq (by rw [send, if_neg (by omega), if_neg (by omega), if_pos htx])) (vint_eq (by rw [send, if_neg (by omega), if_neg (by omega), if_pos htx])), Ext.of_below hB⟩
end Go.Proofs.YtbikicakdkbcgacGreat
