/- Contracts. -/
import Derived.Test.YtfbjllabgkabkaaF12
set_option linter.unusedVariables false
set_option linter.unusedSimpArgs false
namespace Go.Proofs.Ytfbjllabgkabkaa
open Go Go.RowKit Go.Gv Go.Fl

/-- the row of nothing that is sent -/
def bv (rd : Sg) : Nat → Int
  | 0 => 0
  | k + 1 => if k + 1 ≤ rd.length ∧ rd.getD k 0 = 32 then min 1048576 (bv rd k + 1) else 1048576
def bl (rd : Sg) (k : Nat) : List Int := (List.range k).map (bv rd) ++ List.replicate (41 - k) 0
def begunL (rd : Sg) : List Int := bl rd 41
theorem bl_len (rd : Sg) (k : Nat) (hk : k ≤ 41 := by omega) : (bl rd k).length = 41 := by simp [bl]; omega
theorem bv_bounds (rd : Sg) : ∀ k, 0 ≤ bv rd k ∧ bv rd k ≤ 1048576
  | 0 => by simp [bv]
  | k + 1 => by have := bv_bounds rd k; unfold bv; split <;> omega
theorem bl_get {rd : Sg} {k i : Nat} (hi : i < k) (hk : k ≤ 41) : (bl rd k).getD i 0 = bv rd i := by
  unfold bl
  rw [List.getD_eq_getElem?_getD, List.getElem?_append_left (by simpa using hi)]
  simp [hi]
theorem bl_set {rd : Sg} {k : Nat} (hk : k < 41) : (bl rd k).set k (bv rd k) = bl rd (k + 1) := by
  unfold bl
  rw [List.set_append_right _ _ (by simp)]
  have : 41 - k = (41 - (k + 1)) + 1 := by omega
  rw [this, List.replicate_succ, List.range_succ]
  simp
theorem bl_next1 {rd : Sg} {k : Nat} (h1 : 1 ≤ k) (h2 : k < 41) (hl : k ≤ rd.length) (hb : rd.getD (k - 1) 0 = 32) :
    ((bl rd k).set k 1048576).set k (minOf [1048576, ((bl rd k).set k 1048576).getD ((k : Int) - 1).toNat 0 + 1]) = bl rd (k + 1) := by
  have hkm : ((k : Int) - 1).toNat = k - 1 := by omega
  rw [hkm, Gv.getD_set_ne (by omega), bl_get (by omega) (by omega), List.set_set, min_two, ← bl_set h2]
  obtain ⟨j, rfl⟩ : ∃ j, k = j + 1 := ⟨k - 1, by omega⟩
  rw [bv, if_pos ⟨hl, by simpa using hb⟩]
  simp
theorem bl_next0 {rd : Sg} {k : Nat} (h1 : 1 ≤ k) (h2 : k < 41) (h : rd.length < k ∨ rd.getD (k - 1) 0 ≠ 32) : (bl rd k).set k 1048576 = bl rd (k + 1) := by
  rw [← bl_set h2]
  obtain ⟨j, rfl⟩ : ∃ j, k = j + 1 := ⟨k - 1, by omega⟩
  rw [bv, if_neg]
  rintro ⟨h3, h4⟩
  rcases h with h | h
  · omega
  · exact h (by simpa using h4)

theorem fld82_1 (w : World) (b o : Nat) : (Instr.fieldAt 82 (ptr b o) 1).run Try.prog w = .ok (ptr b (o + 1)) w := by
  simp [Instr.fieldAt, run_underlying Try.underlying82, fieldPlace, Instr.sureAddr, Try.sizeOf9, Addr.add_lit]
theorem el3 : Elem Try.prog 3 (vint 0) 1 8 := elem_of (by kernel_rfl) rfl (by decide)
theorem begun_ret (a : Option Addr) (cc : Nat) (c : List Sg) (rd : Sg) (er : Int) (w : World) (hrow : Row w a c.length cc 1 (c.map vstr)) (hcn : c.length ≤ 2097152) (hrd : rd.length ≤ 40) : Ret Try.prog 66 [.agg ⟨[.slice a c.length cc, vstr rd, vint er]⟩] w (fun v w' => v = .agg ⟨(begunL rd).map vint⟩ ∧ Ext w w') := by
  have hB := Below.refl w.heap.size w
  have hsz : w.heap.size ≤ w.heap.size := Nat.le_refl _
  refine ret_of_runs (args := [_]) Try.func66 rfl (Nat.le_of_ble_eq_true rfl) (by kernel_rfl) ?_
  refine r_seq ?_
  refine r_region' ?_
  refine l_o (o_box rfl rfl rfl ?_)
  intro b1 w1 hzl1 hzr1 _ hb1 hE1
  have hbs_b1 : w.heap.size ≤ b1 := Nat.le_trans hsz hzl1
  replace hB := below_ext hB hE1 hsz
  replace hsz := Nat.le_trans hsz hE1.size
  refine l_o (o_alloc Try.zeroValue101 rfl rfl ?_)
  intro b2 w2 hzl2 hzr2 _ hb2 hE2
  have hbs_b2 : w.heap.size ≤ b2 := Nat.le_trans hsz hzl2
  replace hB := below_ext hB hE2 hsz
  replace hb1 := hb1.ext hE2
  replace hsz := Nat.le_trans hsz hE2.size
  refine l_nil ?_
  refine r_forget [(1, .pointer _), (2, .pointer _)] ⟨rfl, rfl, trivial⟩ (fun e3 => ?_)
  refine r_seq ?_
  refine r_seq ?_
  replace hb2 : Blk w2 b2 ((bl rd 1).map vint) := hb2
  refine r_region' ?_
  refine l_q (q_assign (v := .int _ _) rfl rfl) ?_
  refine l_nil ?_
  refine r_block ?_
  refine r_rounds (α := Nat) (fun k e wl => Knows e [(1, ptr b1 0), (2, ptr b2 0), (3, vint (k : Int))] ∧ (1 ≤ k ∧ k ≤ 41) ∧ (Blk wl b2 ((bl rd k).map vint)) ∧ (Blk wl b1 [.slice a c.length cc, vstr rd, vint er]) ∧ (w.heap.size ≤ wl.heap.size) ∧ (Below w.heap.size w wl)) (fun k => 41 - k) 1 ?_ ?_
  · skip
    exact ⟨⟨rfl, rfl, rfl, trivial⟩, (by omega), hb2, hb1, hsz, hB⟩
  · skip
    rintro k el4 wl4 ⟨hkn, hk, hb2, hb1, hsz, hB⟩ ih4
    obtain ⟨e4, rfl⟩ := knows_env hkn
    refine r_seq ?_
    refine r_seq ?_
    refine r_region' ?_
    refine l_q (q_move (v := .int _ _) rfl rfl) ?_
    refine l_q (q_lss rfl rfl rfl) ?_
    refine l_nil ?_
    refine r_forget [(1, .pointer _), (2, .pointer _), (3, .int _ _), (5, .bool _)] ⟨rfl, rfl, rfl, rfl, trivial⟩ (fun e5 => ?_)
    refine r_cond rfl (fun hc6 => ?_) (fun hc6 => ?_)
    · skip
      try simp only [decide_eq_true_eq, decide_eq_false_iff_not, Bool.not_eq_true', Bool.not_eq_false', Bool.not_not, Bool.not_true, Bool.not_false, Bool.not_eq_true, Bool.not_eq_false, Int.not_lt, Int.not_le, Bool.and_eq_true, Bool.or_eq_true, Bool.and_eq_false_iff, Bool.or_eq_false_iff] at hc6
      have hkm : ((k : Int) - 1).toNat = k - 1 := by omega
      have hbl := bl_len rd k
      have hbv := bv_bounds rd (k - 1)
      have hget : (bl rd k).getD (k - 1) 0 = bv rd (k - 1) := bl_get (by omega) (by omega)
      refine r_skip ?_
      refine r_seq ?_
      refine r_block ?_
      refine r_seq ?_
      refine r_region' ?_
      refine l_q (q_move (v := .int _ _) rfl rfl) ?_
      refine l_q ((q_indexAddr_arr1 Try.underlying101 Try.sizeOf3 rfl rfl (by omega) rfl).cast (ptr0 _ _)) ?_
      refine l_o (o_store1 (v := vint 1048576) (o := k) Try.sizeOf3 rfl rfl rfl rfl hb2 (by rw [List.length_map]; (try simp only [List.length_set]); have := bl_len rd k; omega) rfl ?_)
      intro w7 hz7 hb2 hG7
      rw [imap_set] at hb2
      replace hB := below_upd hB hG7 hsz (by omega)
      replace hsz : w.heap.size ≤ w7.heap.size := by rw [hz7]; exact hsz
      replace hb1 := hb1.upd hG7 (by omega)
      refine l_nil ?_
      refine r_forget [(1, .pointer _), (2, .pointer _), (3, .int _ _)] ⟨rfl, rfl, rfl, trivial⟩ (fun e8 => ?_)
      refine r_seq ?_
      refine r_region' ?_
      refine l_q (q_move (v := .int _ _) rfl rfl) ?_
      refine l_q (q_fieldAddr (o' := 1) rfl fld82_1 rfl) ?_
      refine l_q (q_load Try.isAgg9 rfl ((hb1.has (o := 1) rfl)) rfl) ?_
      refine l_q (q_len_str rfl Try.underlying9 rfl rfl) ?_
      refine l_q (q_leq rfl rfl rfl) ?_
      refine l_q (q_move (v := .bool _) rfl rfl) ?_
      refine l_part 15 rfl (fun hc9 => ?_) (fun hc9 => ?_)
      · skip
        try simp only [decide_eq_true_eq, decide_eq_false_iff_not, Bool.not_eq_true', Bool.not_eq_false', Bool.not_not, Bool.not_true, Bool.not_false, Bool.not_eq_true, Bool.not_eq_false, Int.not_lt, Int.not_le, Bool.and_eq_true, Bool.or_eq_true, Bool.and_eq_false_iff, Bool.or_eq_false_iff] at hc9
        refine l_q (q_fieldAddr (o' := 1) rfl fld82_1 rfl) ?_
        refine l_q (q_load Try.isAgg9 rfl ((hb1.has (o := 1) rfl)) rfl) ?_
        refine l_q (q_move (v := .int _ _) rfl rfl) ?_
        refine l_q (q_sub rfl rfl (by omega) rfl) ?_
        refine l_q (q_index_str (c := (rd).getD ((k : Int) - 1).toNat 0) Try.underlying9 rfl rfl (by omega) (getD_some (by omega)) rfl) ?_
        refine l_q (q_eql rfl rfl rfl) ?_
        refine l_q (q_pick_t (v := .bool _) rfl rfl rfl) ?_
        refine l_nil ?_
        refine r_forget [(1, .pointer _), (2, .pointer _), (3, .int _ _), (22, .bool _)] ⟨rfl, rfl, rfl, rfl, trivial⟩ (fun e10 => ?_)
        refine r_cond rfl (fun hc11 => ?_) (fun hc11 => ?_)
        · skip
          try simp only [decide_eq_true_eq, decide_eq_false_iff_not, Bool.not_eq_true', Bool.not_eq_false', Bool.not_not, Bool.not_true, Bool.not_false, Bool.not_eq_true, Bool.not_eq_false, Int.not_lt, Int.not_le, Bool.and_eq_true, Bool.or_eq_true, Bool.and_eq_false_iff, Bool.or_eq_false_iff] at hc11
          have hb22 := u8_eq (n := 32) hc11
          refine r_region' ?_
          refine l_q (q_move (v := .int _ _) rfl rfl) ?_
          refine l_q (q_move (v := .int _ _) rfl rfl) ?_
          refine l_q (q_sub rfl rfl (by omega) rfl) ?_
          refine l_q ((q_indexAddr_arr1 Try.underlying101 Try.sizeOf3 rfl rfl (by omega) rfl).cast (ptr0 _ _)) ?_
          refine l_q (q_load Try.isAgg3 rfl ((hb2.has (o := ((k : Int) - 1).toNat) (imap (by (try simp only [List.length_set]); have := bl_len rd k; omega)))) rfl) ?_
          refine l_q (q_add rfl rfl (by rw [Gv.getD_set_ne (by omega), hkm]; omega) rfl) ?_
          refine l_o (o_buildSlice (el := 3) (cs := [vint 1048576, vint ((((bl rd k).set k 1048576).getD (((k : Int) - 1).toNat) 0) + 1)]) Try.underlying26 el3 (by decide) (by kernel_rfl) rfl (by decide) rfl ?_)
          intro b12 w12 hzl12 hzr12 _ hb12 hE12 ho12
          have hbs_b12 : w.heap.size ≤ b12 := Nat.le_trans hsz hzl12
          replace hB := below_ext hB hE12 hsz
          replace hb1 := hb1.ext hE12
          replace hb2 := hb2.ext hE12
          replace hsz := Nat.le_trans hsz hE12.size
          refine l_o (o_call Try.call77 rfl (minimum_ret _ _ [1048576, (((bl rd k).set k 1048576).getD (((k : Int) - 1).toNat) 0) + 1] _ (Row.of_owns ho12) (by first | omega | simp) (by first | omega | simp)) rfl ?_)
          rintro _ w13 ⟨rfl, hE13⟩
          replace hB := below_ext hB hE13 hsz
          replace hb1 := hb1.ext hE13
          replace hb2 := hb2.ext hE13
          replace ho12 := own_ext ho12 hE13
          replace hsz := Nat.le_trans hsz hE13.size
          refine l_q ((q_indexAddr_arr1 Try.underlying101 Try.sizeOf3 rfl rfl (by omega) rfl).cast (ptr0 _ _)) ?_
          refine l_o (o_store1 (v := vint (minOf [1048576, (((bl rd k).set k 1048576).getD (((k : Int) - 1).toNat) 0) + 1])) (o := k) Try.sizeOf3 rfl rfl rfl rfl hb2 (by rw [List.length_map]; (try simp only [List.length_set]); have := bl_len rd k; omega) rfl ?_)
          intro w14 hz14 hb2 hG14
          rw [imap_set] at hb2
          replace hB := below_upd hB hG14 hsz (by omega)
          replace hsz : w.heap.size ≤ w14.heap.size := by rw [hz14]; exact hsz
          replace hb1 := hb1.upd hG14 (by omega)
          refine l_nil ?_
          refine r_forget [(1, .pointer _), (2, .pointer _), (3, .int _ _)] ⟨rfl, rfl, rfl, trivial⟩ (fun e15 => ?_)
          refine r_inBlock ?_
          refine r_region' ?_
          refine l_q (q_move (v := .int _ _) rfl rfl) ?_
          refine l_q (q_add rfl rfl (by omega) rfl) ?_
          refine l_q (q_assign (v := .int _ _) rfl rfl) ?_
          refine l_nil ?_
          refine r_forget [(1, .pointer _), (2, .pointer _), (3, .int _ _)] ⟨rfl, rfl, rfl, trivial⟩ (fun e16 => ?_)
          exact ih4 (k + 1) _ _ ⟨⟨rfl, rfl, by first | rfl | exact vint_eq (by omega), trivial⟩, (by omega), (by rw [← bl_next1 (rd := rd) (k := k) (by omega) (by omega) (by omega) (hkm ▸ hb22)]; exact hb2), hb1, hsz, hB⟩ (by first | omega | (dsimp only; omega))
        · skip
          try simp only [decide_eq_true_eq, decide_eq_false_iff_not, Bool.not_eq_true', Bool.not_eq_false', Bool.not_not, Bool.not_true, Bool.not_false, Bool.not_eq_true, Bool.not_eq_false, Int.not_lt, Int.not_le, Bool.and_eq_true, Bool.or_eq_true, Bool.and_eq_false_iff, Bool.or_eq_false_iff] at hc11
          have hb22 := u8_ne (n := 32) hc11
          refine r_skip ?_
          refine r_inBlock ?_
          refine r_region' ?_
          refine l_q (q_move (v := .int _ _) rfl rfl) ?_
          refine l_q (q_add rfl rfl (by omega) rfl) ?_
          refine l_q (q_assign (v := .int _ _) rfl rfl) ?_
          refine l_nil ?_
          refine r_forget [(1, .pointer _), (2, .pointer _), (3, .int _ _)] ⟨rfl, rfl, rfl, trivial⟩ (fun e17 => ?_)
          exact ih4 (k + 1) _ _ ⟨⟨rfl, rfl, by first | rfl | exact vint_eq (by omega), trivial⟩, (by omega), (by rw [← bl_next0 (rd := rd) (k := k) (by omega) (by omega) (by first | exact .inl (by omega) | exact .inr (hkm ▸ hb22))]; exact hb2), hb1, hsz, hB⟩ (by first | omega | (dsimp only; omega))
      · skip
        try simp only [decide_eq_true_eq, decide_eq_false_iff_not, Bool.not_eq_true', Bool.not_eq_false', Bool.not_not, Bool.not_true, Bool.not_false, Bool.not_eq_true, Bool.not_eq_false, Int.not_lt, Int.not_le, Bool.and_eq_true, Bool.or_eq_true, Bool.and_eq_false_iff, Bool.or_eq_false_iff] at hc9
        refine l_q (q_skip rfl) ?_
        refine l_q (q_skip rfl) ?_
        refine l_q (q_skip rfl) ?_
        refine l_q (q_skip rfl) ?_
        refine l_q (q_skip rfl) ?_
        refine l_q (q_skip rfl) ?_
        refine l_q (q_pick_f (v := .bool _) rfl rfl rfl) ?_
        refine l_nil ?_
        refine r_forget [(1, .pointer _), (2, .pointer _), (3, .int _ _), (22, .bool _)] ⟨rfl, rfl, rfl, rfl, trivial⟩ (fun e18 => ?_)
        refine r_cond_f rfl ?_
        refine r_skip ?_
        refine r_inBlock ?_
        refine r_region' ?_
        refine l_q (q_move (v := .int _ _) rfl rfl) ?_
        refine l_q (q_add rfl rfl (by omega) rfl) ?_
        refine l_q (q_assign (v := .int _ _) rfl rfl) ?_
        refine l_nil ?_
        refine r_forget [(1, .pointer _), (2, .pointer _), (3, .int _ _)] ⟨rfl, rfl, rfl, trivial⟩ (fun e19 => ?_)
        exact ih4 (k + 1) _ _ ⟨⟨rfl, rfl, by first | rfl | exact vint_eq (by omega), trivial⟩, (by omega), (by rw [← bl_next0 (rd := rd) (k := k) (by omega) (by omega) (by first | exact .inl (by omega) | exact .inr (hkm ▸ hb22))]; exact hb2), hb1, hsz, hB⟩ (by first | omega | (dsimp only; omega))
    · skip
      try simp only [decide_eq_true_eq, decide_eq_false_iff_not, Bool.not_eq_true', Bool.not_eq_false', Bool.not_not, Bool.not_true, Bool.not_false, Bool.not_eq_true, Bool.not_eq_false, Int.not_lt, Int.not_le, Bool.and_eq_true, Bool.or_eq_true, Bool.and_eq_false_iff, Bool.or_eq_false_iff] at hc6
      refine r_exit rfl ?_
      refine r_seq ?_
      refine r_region' ?_
      refine l_q (q_load_agg (n := 41) Try.isAgg101 Try.sizeOf101 rfl ((hb2.cells0)) (by (try simp only [List.length_map, List.length_set]); exact bl_len _ _) rfl) ?_
      refine l_o (o_store_all (cs' := (bl rd k).map vint) Try.sizeOf101 rfl rfl hb2 (by (try simp only [List.length_map, List.length_set]); exact bl_len _ _) (by (try simp only [List.length_map, List.length_set]); exact bl_len _ _) (all_one_map _ _ (fun _ => rfl)) rfl ?_)
      intro w20 hz20 hb2 hG20
      replace hB := below_upd hB hG20 hsz (by omega)
      replace hsz : w.heap.size ≤ w20.heap.size := by rw [hz20]; exact hsz
      replace hb1 := hb1.upd hG20 (by omega)
      refine l_nil ?_
      refine r_forget [(2, .pointer _)] ⟨rfl, trivial⟩ (fun e21 => ?_)
      refine r_ret_ (vs := [.agg _]) rfl Try.func66 rfl (.nil _) ⟨⟨_, _, rfl, run_loadVarA Try.isAgg101 Try.sizeOf101 (hb2.cells0) (by (try simp only [List.length_map, List.length_set]); exact bl_len _ _)⟩, trivial⟩ ?_
      have hk41 : k = 41 := by omega
      subst hk41
      exact ⟨rfl, Ext.of_below hB⟩
end Go.Proofs.Ytfbjllabgkabkaa
