/- Contracts. -/
import Derived.Test.YtkcbgpilfegofaaE5
import Derived.Test.YtkcbgpilfegofaaGvTy
set_option linter.unusedVariables false
set_option linter.unusedSimpArgs false
namespace Go.Proofs.Ytkcbgpilfegofaa
open Go Go.RowKit Go.Gv Go.Fl

theorem kept_snoc {M : List SV} {A B B' : List (List Int)} {x : List Int} {s : SV} (h : M.map (·.xs) = A ++ B) (hb : B' = B ++ [x]) (hs : s.xs = x) : (M ++ [s]).map (·.xs) = A ++ B' := by
  rw [List.map_append, h, hb, List.append_assoc]; simp [hs]
theorem sv_len1 (M : List SV) : M.length = M.length := rfl
theorem flat_last {f : Nat → List (List Int)} {m : Nat} : (List.range m).flatMap f ++ f m = (List.range (m + 1)).flatMap f := by
  rw [List.range_succ, List.flatMap_append]; simp


theorem nth_ret (a : Option Addr) (cc : Nat) (c : List Sg) (l n : Nat) (w : World) (hrow : Row w a c.length cc 1 (c.map vstr)) (hcn : c.length ≤ 2097152) (hc0 : 0 < c.length) (hl8 : l ≤ 8) (hn6 : n ≤ 1000000) : Ret Try.prog 66 [.agg ⟨[.slice a c.length cc]⟩, vint (l : Int), vint (n : Int)] w (fun v w' => ∃ ra0 rc0, v = .slice ra0 (nthL c.length l n).length rc0 ∧ w'.ownsRow w.heap.size 3 1 (.slice ra0 (nthL c.length l n).length rc0) (nthL c.length l n).length ((nthL c.length l n).map vint) ∧ Ext w w') := by
  have hB := Below.refl w.heap.size w
  have hsz : w.heap.size ≤ w.heap.size := Nat.le_refl _
  refine ret_of_runs (args := [_, _, _]) Try.func66 rfl (Nat.le_of_ble_eq_true rfl) (by kernel_rfl) ?_
  refine r_seq ?_
  refine r_region' ?_
  refine l_o (o_box rfl rfl rfl ?_)
  intro b1 w1 hzl1 hzr1 _ hb1 hE1
  have hbs_b1 : w.heap.size ≤ b1 := Nat.le_trans hsz hzl1
  replace hB := below_ext hB hE1 hsz
  replace hsz := Nat.le_trans hsz hE1.size
  refine l_q (q_assign (v := .slice _ _ _) rfl rfl) ?_
  refine l_nil ?_
  refine r_forget [(1, .int _ _), (2, .int _ _), (3, .pointer _)] ⟨rfl, rfl, rfl, trivial⟩ (fun e2 => ?_)
  refine r_seq ?_
  refine r_region' ?_
  refine l_q (q_move (v := .int _ _) rfl rfl) ?_
  refine l_o (o_makeSlice (n := l) Try.underlying25 el3 (rfl) (rfl) (by omega) (by unfold maxLen; omega) rfl ?_)
  intro b3 w3 hzl3 hzr3 _ hb3 hE3 ho3
  rw [made_one _ _ rfl] at hb3 ho3
  have hne_b1_b3 : b1 ≠ b3 := by have := hb1.lt; omega
  have hbs_b3 : w.heap.size ≤ b3 := Nat.le_trans hsz hzl3
  replace hB := below_ext hB hE3 hsz
  replace hb1 := hb1.ext hE3
  replace hsz := Nat.le_trans hsz hE3.size
  have hty := ty_of_own ho3
  replace hb3 : Blk w3 b3 ((List.replicate l 0).map vint) := by rw [List.map_replicate]; exact hb3
  refine l_q (q_assign (v := .slice _ _ _) rfl rfl) ?_
  refine l_nil ?_
  refine r_forget [(1, .int _ _), (2, .int _ _), (3, .pointer _), (7, .slice _ _ _)] ⟨rfl, rfl, rfl, rfl, trivial⟩ (fun e4 => ?_)
  refine r_seq ?_
  refine r_seq ?_
  have hT := hb3
  refine r_region' ?_
  refine l_q (q_move (v := .int _ _) rfl rfl) ?_
  refine l_q (q_sub rfl rfl (by omega) rfl) ?_
  refine l_q (q_assign (v := .int _ _) rfl rfl) ?_
  refine l_nil ?_
  refine r_forget [(2, .int _ _), (3, .pointer _), (7, .slice _ _ _), (8, .int _ _)] ⟨rfl, rfl, rfl, rfl, trivial⟩ (fun e5 => ?_)
  refine r_block ?_
  refine r_rounds (α := Nat × Nat × (List Int)) (fun ⟨m, x, D⟩ e wl => Knows e [(2, vint (x : Int)), (3, ptr b1 0), (7, .slice (some ⟨b3, 0, none⟩) l l), (8, vint ((m : Int) - 1))] ∧ (m + D.length = l) ∧ (nthL c.length l n = nthL c.length m x ++ D) ∧ (x ≤ n) ∧ (Blk wl b3 ((List.replicate m 0 ++ D).map vint)) ∧ (Blk wl b1 [.slice a c.length cc]) ∧ (TyAt wl b3 3) ∧ (w.heap.size ≤ wl.heap.size) ∧ (Below w.heap.size w wl)) (fun ⟨m, x, D⟩ => m) (l, n, []) ?_ ?_
  · skip
    exact ⟨⟨rfl, rfl, rfl, rfl, trivial⟩, (by simp), (by rw [List.append_nil]), (Nat.le_refl _), (by rw [List.append_nil]; exact hT), hb1, hty, hsz, hB⟩
  · skip
    rintro ⟨m, x, D⟩ el6 wl6 ⟨hkn, hmD, hx, hxn, hT, hb1, hty, hsz, hB⟩ ih6
    obtain ⟨e6, rfl⟩ := knows_env hkn
    refine r_seq ?_
    refine r_seq ?_
    refine r_region' ?_
    refine l_q (q_move (v := .int _ _) rfl rfl) ?_
    refine l_q (q_geq rfl rfl rfl) ?_
    refine l_nil ?_
    refine r_forget [(2, .int _ _), (3, .pointer _), (7, .slice _ _ _), (8, .int _ _), (14, .bool _)] ⟨rfl, rfl, rfl, rfl, rfl, trivial⟩ (fun e7 => ?_)
    refine r_cond rfl (fun hc8 => ?_) (fun hc8 => ?_)
    · skip
      try simp only [decide_eq_true_eq, decide_eq_false_iff_not, Bool.not_eq_true', Bool.not_eq_false', Bool.not_not, Bool.not_true, Bool.not_false, Bool.not_eq_true, Bool.not_eq_false, Int.not_lt, Int.not_le, Bool.and_eq_true, Bool.or_eq_true, Bool.and_eq_false_iff, Bool.or_eq_false_iff] at hc8
      refine r_skip ?_
      refine r_seq ?_
      refine r_block ?_
      obtain ⟨m, hm⟩ : ∃ j, m = j + 1 := ⟨m - 1, by omega⟩
      subst hm
      refine r_forget [(2, .int _ _), (3, .pointer _), (7, .slice _ _ _), (8, vint (m : Int)), (14, .bool _)] ⟨rfl, rfl, rfl, vint_eq (by omega), rfl, trivial⟩ (fun e9 => ?_)
      refine r_draw (gm_refl b3) (gm_trans b3) [0, 1, 2, 3, 4, 5, 6, 7, 8, 9, 10, 11, 12, 13, 14] [13] 4 (by kernel_rfl) (by kernel_rfl) ?_
      intro w10 _ hE10
      replace hB := below_ext hB hE10 hsz
      replace hb1 := hb1.ext hE10
      replace hty := hty.ext hE10
      replace hT := hT.ext hE10
      replace hsz := Nat.le_trans hsz hE10.size
      refine m_q rfl rfl (fun w' hC' => q_move (v := .slice _ _ _) rfl rfl) ?_
      refine m_q rfl rfl (fun w' hC' => q_move (v := .int _ _) rfl rfl) ?_
      refine m_q rfl rfl (fun w' hC' => q_move (v := .int _ _) rfl rfl) ?_
      refine m_q rfl rfl (fun w' hC' => q_fieldAddr (o' := 0) rfl fld24_0 rfl) ?_
      refine m_q rfl rfl (fun w' hC' => q_load Try.isAgg22 rfl (((hb1.step hC' (by simp; omega)).has (o := 0) rfl)) rfl) ?_
      refine m_q rfl rfl (fun w' hC' => q_len rfl Try.underlying22 rfl rfl) ?_
      refine m_q rfl rfl (fun w' hC' => q_rem rfl rfl (by omega) rfl) ?_
      refine m_q rfl rfl (fun w' hC' => q_move (v := .int _ _) rfl rfl) ?_
      refine m_q rfl rfl (fun w' hC' => q_fieldAddr (o' := 0) rfl fld24_0 rfl) ?_
      refine m_q rfl rfl (fun w' hC' => q_load Try.isAgg22 rfl (((hb1.step hC' (by simp; omega)).has (o := 0) rfl)) rfl) ?_
      refine m_q rfl rfl (fun w' hC' => q_len rfl Try.underlying22 rfl rfl) ?_
      refine m_q rfl rfl (fun w' hC' => q_quo rfl rfl (by omega) rfl) ?_
      refine m_q rfl rfl (fun w' hC' => q_indexAddr1 Try.underlying25 Try.sizeOf3 rfl rfl rfl (by omega) rfl) ?_
      refine m_o rfl rfl (o_store1t (v := vint ((x : Int) % (c.length : Int))) (o := 0 + m) Try.sizeOf3 rfl rfl rfl rfl hT hty (by rw [List.length_map]; simp only [List.length_append, List.length_replicate]; omega) rfl ?_)
      intro w11 hz11 hT hty hG11
      rw [imap_set] at hT
      refine ⟨hG11, ?_⟩
      replace hB := below_upd hB hG11 hsz (by omega)
      replace hsz : w.heap.size ≤ w11.heap.size := by rw [hz11]; exact hsz
      replace hb1 := hb1.upd hG11 (by omega)
      refine m_q rfl rfl (fun w' hC' => q_assign (v := .int _ _) rfl rfl) ?_
      refine m_nil ?_
      refine r_forget [(2, .int _ _), (3, .pointer _), (7, .slice _ _ _), (8, .int _ _)] ⟨rfl, rfl, rfl, rfl, trivial⟩ (fun e12 => ?_)
      refine r_inBlock ?_
      refine r_region' ?_
      refine l_q (q_move (v := .int _ _) rfl rfl) ?_
      refine l_q (q_sub rfl rfl (by omega) rfl) ?_
      refine l_q (q_assign (v := .int _ _) rfl rfl) ?_
      refine l_nil ?_
      refine r_forget [(2, .int _ _), (3, .pointer _), (7, .slice _ _ _), (8, .int _ _)] ⟨rfl, rfl, rfl, rfl, trivial⟩ (fun e13 => ?_)
      exact ih6 (m, x / c.length, ((x : Int) % (c.length : Int)) :: D) _ _ ⟨⟨(vint_eq (by rw [Int.natCast_ediv])), rfl, rfl, rfl, trivial⟩, (by rw [List.length_cons]; omega), (by rw [hx, nthL, List.append_assoc]; rfl), (Nat.le_trans (Nat.div_le_self _ _) hxn), (blk_eq nth_set hT), hb1, hty, hsz, hB⟩ (by first | omega | (dsimp only; omega))
    · skip
      try simp only [decide_eq_true_eq, decide_eq_false_iff_not, Bool.not_eq_true', Bool.not_eq_false', Bool.not_not, Bool.not_true, Bool.not_false, Bool.not_eq_true, Bool.not_eq_false, Int.not_lt, Int.not_le, Bool.and_eq_true, Bool.or_eq_true, Bool.and_eq_false_iff, Bool.or_eq_false_iff] at hc8
      refine r_exit rfl ?_
      refine r_seq ?_
      refine r_region' ?_
      refine l_q (q_move (v := .slice _ _ _) rfl rfl) ?_
      refine l_q (q_assign (v := .slice _ _ _) rfl rfl) ?_
      refine l_nil ?_
      refine r_forget [(6, .slice _ _ _)] ⟨rfl, trivial⟩ (fun e14 => ?_)
      refine r_ret_ (vs := [.slice _ _ _]) rfl Try.func66 rfl (.nil _) ⟨rfl, trivial⟩ ?_
      have hm0 : m = 0 := by omega
      subst hm0
      have hy : List.replicate 0 0 ++ D = nthL c.length l n := by rw [hx]; rfl
      rw [hy] at hT
      exact ⟨_, _, by rw [nthL_len]; rfl, by rw [nthL_len]; exact own_of_blk hT hty (by rw [List.length_map, nthL_len]) (by unfold maxLen; omega) (by omega), Ext.of_below hB⟩
theorem rtexts_ret (a : Option Addr) (cc : Nat) (c : List Sg) (rd : Sg) (er : Int) (l : Nat) (w : World) (hrow : Row w a c.length cc 1 (c.map vstr)) (hcn : c.length ≤ 2097152) (hfc : fault c = 0) (hc3 : c.length ≤ 3) (hrd : rd.length ≤ 40) (her : er ≤ 3) (hl3 : l ≤ 3) : Ret Try.prog 35 [.agg ⟨[.slice a c.length cc]⟩, vstr rd, vint er, vint (l : Int)] w (fun v w' => ∃ oa oc L2, v = .slice oa L2.length oc ∧ w'.ownsRow w.heap.size 25 1 (.slice oa L2.length oc) L2.length (L2.map SV.enc) ∧ OwnsI w' w.heap.size 3 L2 ∧ L2.map (·.xs) = texts c rd er l ∧ Ext w w') := by
  have hc0 : 0 < c.length := List.length_pos_iff.2 (fault_zero hfc).2.1
  have hB := Below.refl w.heap.size w
  have hsz : w.heap.size ≤ w.heap.size := Nat.le_refl _
  refine ret_of_runs (args := [_, _, _, _]) Try.func35 rfl (Nat.le_of_ble_eq_true rfl) (by kernel_rfl) ?_
  refine r_seq ?_
  refine r_region' ?_
  refine l_o (o_box rfl rfl rfl ?_)
  intro b1 w1 hzl1 hzr1 _ hb1 hE1
  have hbs_b1 : w.heap.size ≤ b1 := Nat.le_trans hsz hzl1
  replace hB := below_ext hB hE1 hsz
  replace hsz := Nat.le_trans hsz hE1.size
  refine l_q (q_assign (v := .slice _ _ _) rfl rfl) ?_
  refine l_nil ?_
  refine r_forget [(1, .string _), (2, .int _ _), (3, .int _ _), (4, .pointer _)] ⟨rfl, rfl, rfl, rfl, trivial⟩ (fun e2 => ?_)
  refine r_seq ?_
  refine r_region' ?_
  refine l_q (q_assign (v := .slice _ _ _) rfl rfl) ?_
  refine l_nil ?_
  refine r_seq ?_
  refine r_region' ?_
  refine l_q (q_assign (v := .int _ _) rfl rfl) ?_
  refine l_nil ?_
  refine r_seq ?_
  refine r_seq ?_
  refine r_region' ?_
  refine l_q (q_assign (v := .int _ _) rfl rfl) ?_
  refine l_nil ?_
  refine r_block ?_
  refine r_rounds (α := Nat × (Option Addr) × Nat × (List SV)) (fun ⟨m, oa, oc, M⟩ e wl => Knows e [(1, vstr rd), (2, vint er), (3, vint (l : Int)), (4, ptr b1 0), (9, .slice oa ((M).length) oc), (10, vint ((c.length ^ m : Nat) : Int)), (11, vint (m : Int))] ∧ (m ≤ l + 1) ∧ (M.map (·.xs) = (List.range m).flatMap (textsOf c rd er)) ∧ (M.length ≤ m * 27) ∧ (wl.ownsRow (b1 + 1) 25 1 (.slice oa ((M).length) oc) ((M).length) ((M).map SV.enc)) ∧ (OwnsI wl w.heap.size 3 M) ∧ (Blk wl b1 [.slice a c.length cc]) ∧ (w.heap.size ≤ wl.heap.size) ∧ (Below w.heap.size w wl)) (fun ⟨m, oa, oc, M⟩ => l + 1 - m) (0, none, 0, []) ?_ ?_
  · skip
    exact ⟨⟨rfl, rfl, rfl, rfl, rfl, rfl, rfl, trivial⟩, (by omega), rfl, (by simp), (World.ownsRow_nil _ _ _ _), (OwnsI.nil _ _ _), hb1, hsz, hB⟩
  · skip
    rintro ⟨m, oa, oc, M⟩ el3 wl3 ⟨hkn, hm, hM, hMb, ho, hos, hb1, hsz, hB⟩ ih3
    obtain ⟨e3, rfl⟩ := knows_env hkn
    refine r_seq ?_
    refine r_seq ?_
    refine r_region' ?_
    refine l_q (q_move (v := .int _ _) rfl rfl) ?_
    refine l_q (q_move (v := .int _ _) rfl rfl) ?_
    refine l_q (q_leq rfl rfl rfl) ?_
    refine l_nil ?_
    refine r_forget [(1, .string _), (2, .int _ _), (3, .int _ _), (4, .pointer _), (9, .slice _ _ _), (10, .int _ _), (11, .int _ _), (18, .bool _)] ⟨rfl, rfl, rfl, rfl, rfl, rfl, rfl, rfl, trivial⟩ (fun e4 => ?_)
    refine r_cond rfl (fun hc5 => ?_) (fun hc5 => ?_)
    · skip
      try simp only [decide_eq_true_eq, decide_eq_false_iff_not, Bool.not_eq_true', Bool.not_eq_false', Bool.not_not, Bool.not_true, Bool.not_false, Bool.not_eq_true, Bool.not_eq_false, Int.not_lt, Int.not_le, Bool.and_eq_true, Bool.or_eq_true, Bool.and_eq_false_iff, Bool.or_eq_false_iff] at hc5
      have hml : m ≤ l := by omega
      have hpow := pow_small hc3 (show m ≤ 3 by omega)
      refine r_skip ?_
      refine r_seq ?_
      refine r_block ?_
      refine r_seq ?_
      refine r_seq ?_
      refine r_region' ?_
      refine l_q (q_assign (v := .int _ _) rfl rfl) ?_
      refine l_nil ?_
      refine r_forget [(1, .string _), (2, .int _ _), (3, .int _ _), (4, .pointer _), (9, .slice _ _ _), (10, .int _ _), (11, .int _ _), (12, .int _ _)] ⟨rfl, rfl, rfl, rfl, rfl, rfl, rfl, rfl, trivial⟩ (fun e6 => ?_)
      refine r_block ?_
      refine r_rounds (α := Nat × (Option Addr) × Nat × (List SV)) (fun ⟨n, oa2, oc2, M2⟩ e wl => Knows e [(1, vstr rd), (2, vint er), (3, vint (l : Int)), (4, ptr b1 0), (9, .slice oa2 ((M2).length) oc2), (10, vint ((c.length ^ m : Nat) : Int)), (11, vint (m : Int)), (12, vint (n : Int))] ∧ (n ≤ c.length ^ m) ∧ (M2.map (·.xs) = (List.range m).flatMap (textsOf c rd er) ++ keptN c rd er m n) ∧ (M2.length ≤ m * 27 + n) ∧ (wl.ownsRow (b1 + 1) 25 1 (.slice oa2 ((M2).length) oc2) ((M2).length) ((M2).map SV.enc)) ∧ (OwnsI wl w.heap.size 3 M2) ∧ (Blk wl b1 [.slice a c.length cc]) ∧ (OwnsI wl w.heap.size 3 M) ∧ (w.heap.size ≤ wl.heap.size) ∧ (Below w.heap.size w wl)) (fun ⟨n, oa2, oc2, M2⟩ => c.length ^ m - n) (0, oa, oc, M) ?_ ?_
      · skip
        exact ⟨⟨rfl, rfl, rfl, rfl, rfl, rfl, rfl, rfl, trivial⟩, (Nat.zero_le _), (by rw [hM]; exact (List.append_nil _).symm), (by omega), ho, hos, hb1, hos, hsz, hB⟩
      · skip
        rintro ⟨n, oa2, oc2, M2⟩ el7 wl7 ⟨hkn, hn, hM2, hMb2, ho2, hos2, hb1, hos, hsz, hB⟩ ih7
        obtain ⟨e7, rfl⟩ := knows_env hkn
        refine r_seq ?_
        refine r_seq ?_
        refine r_region' ?_
        refine l_q (q_move (v := .int _ _) rfl rfl) ?_
        refine l_q (q_move (v := .int _ _) rfl rfl) ?_
        refine l_q (q_lss rfl rfl rfl) ?_
        refine l_nil ?_
        refine r_forget [(1, .string _), (2, .int _ _), (3, .int _ _), (4, .pointer _), (9, .slice _ _ _), (10, .int _ _), (11, .int _ _), (12, .int _ _), (23, .bool _)] ⟨rfl, rfl, rfl, rfl, rfl, rfl, rfl, rfl, rfl, trivial⟩ (fun e8 => ?_)
        refine r_cond rfl (fun hc9 => ?_) (fun hc9 => ?_)
        · skip
          try simp only [decide_eq_true_eq, decide_eq_false_iff_not, Bool.not_eq_true', Bool.not_eq_false', Bool.not_not, Bool.not_true, Bool.not_false, Bool.not_eq_true, Bool.not_eq_false, Int.not_lt, Int.not_le, Bool.and_eq_true, Bool.or_eq_true, Bool.and_eq_false_iff, Bool.or_eq_false_iff] at hc9
          have hnp : n < c.length ^ m := Int.ofNat_lt.1 hc9
          have hsl := signs_len hfc (nthL_text hc0 m n)
          rw [nthL_len] at hsl
          refine r_skip ?_
          refine r_seq ?_
          refine r_block ?_
          refine r_seq ?_
          refine r_region' ?_
          refine l_q (q_load_agg (n := 1) Try.isAgg24 Try.sizeOf24 rfl ((hb1.cells' (cs' := [_]) 0 1 rfl)) rfl rfl) ?_
          refine l_q (q_move (v := .int _ _) rfl rfl) ?_
          refine l_q (q_move (v := .int _ _) rfl rfl) ?_
          have hbl_b1 := hb1.lt
          refine l_o (o_call Try.call66 rfl (nth_ret _ _ c m n _ (hrow.below hB) hcn hc0 (by omega) (by omega)) rfl ?_)
          rintro _ w10 ⟨a10_0, c10_0, rfl, ho10_0, hE10⟩
          replace ho10_0 := own_mono ho10_0 (show b1 + 1 ≤ _ by omega)
          replace hB := below_ext hB hE10 hsz
          replace hb1 := hb1.ext hE10
          replace hos := hos.ext hE10
          replace ho2 := own_ext ho2 hE10
          replace hos2 := hos2.ext hE10
          replace hsz := Nat.le_trans hsz hE10.size
          refine l_q (q_assign (v := .slice _ _ _) rfl rfl) ?_
          refine l_nil ?_
          refine r_forget [(1, .string _), (2, .int _ _), (3, .int _ _), (4, .pointer _), (9, .slice _ _ _), (10, .int _ _), (11, .int _ _), (12, .int _ _), (13, .slice _ _ _)] ⟨rfl, rfl, rfl, rfl, rfl, rfl, rfl, rfl, rfl, trivial⟩ (fun e11 => ?_)
          refine r_seq ?_
          refine r_region' ?_
          refine l_q (q_load_agg (n := 1) Try.isAgg24 Try.sizeOf24 rfl ((hb1.cells' (cs' := [_]) 0 1 rfl)) rfl rfl) ?_
          refine l_q (q_move (v := .slice _ _ _) rfl rfl) ?_
          have hbl_b1 := hb1.lt
          refine l_o (o_call Try.call25 rfl (refSigns_ret _ _ _ _ _ _ _ (hrow.below hB) (by omega) (Row.of_owns ho10_0) (by rw [nthL_len]; omega) hfc (nthL_text hc0 m n)) rfl ?_)
          rintro _ w12 ⟨rfl, hE12⟩
          replace hB := below_ext hB hE12 hsz
          replace hb1 := hb1.ext hE12
          replace hos := hos.ext hE12
          replace ho2 := own_ext ho2 hE12
          replace hos2 := hos2.ext hE12
          replace ho10_0 := own_ext ho10_0 hE12
          replace hsz := Nat.le_trans hsz hE12.size
          refine l_q (q_move (v := .string _) rfl rfl) ?_
          have hbl_b1 := hb1.lt
          refine l_o (o_call Try.call29 rfl (rerrors_ret (signs c (nthL c.length m n)) rd _ (by omega) hrd) rfl ?_)
          rintro _ w13 ⟨rfl, hE13⟩
          replace hB := below_ext hB hE13 hsz
          replace hb1 := hb1.ext hE13
          replace hos := hos.ext hE13
          replace ho2 := own_ext ho2 hE13
          replace hos2 := hos2.ext hE13
          replace ho10_0 := own_ext ho10_0 hE13
          replace hsz := Nat.le_trans hsz hE13.size
          refine l_q (q_move (v := .tuple _) rfl rfl) ?_
          refine l_q (q_extract (vs := [_, _]) (v := .int _ _) rfl rfl rfl) ?_
          refine l_q (q_extract (vs := [_, _]) (v := .bool _) rfl rfl rfl) ?_
          refine l_q (q_assign (v := .int _ _) rfl rfl) ?_
          refine l_q (q_assign (v := .bool _) rfl rfl) ?_
          refine l_nil ?_
          refine r_forget [(1, .string _), (2, .int _ _), (3, .int _ _), (4, .pointer _), (9, .slice _ _ _), (10, .int _ _), (11, .int _ _), (12, .int _ _), (13, .slice _ _ _), (14, .int _ _), (15, .bool _)] ⟨rfl, rfl, rfl, rfl, rfl, rfl, rfl, rfl, rfl, rfl, rfl, trivial⟩ (fun e14 => ?_)
          refine r_seq ?_
          refine r_region' ?_
          refine l_q (q_move (v := .bool _) rfl rfl) ?_
          refine l_q (q_move (v := .bool _) rfl rfl) ?_
          refine l_part 39 rfl (fun hc15 => ?_) (fun hc15 => ?_)
          · skip
            try simp only [decide_eq_true_eq, decide_eq_false_iff_not, Bool.not_eq_true', Bool.not_eq_false', Bool.not_not, Bool.not_true, Bool.not_false, Bool.not_eq_true, Bool.not_eq_false, Int.not_lt, Int.not_le, Bool.and_eq_true, Bool.or_eq_true, Bool.and_eq_false_iff, Bool.or_eq_false_iff] at hc15
            have hlt := hc15
            refine l_q (q_move (v := .int _ _) rfl rfl) ?_
            refine l_q (q_move (v := .int _ _) rfl rfl) ?_
            refine l_q (q_leq rfl rfl rfl) ?_
            refine l_q (q_pick_t (v := .bool _) rfl rfl rfl) ?_
            refine l_nil ?_
            refine r_forget [(1, .string _), (2, .int _ _), (3, .int _ _), (4, .pointer _), (9, .slice _ _ _), (10, .int _ _), (11, .int _ _), (12, .int _ _), (13, .slice _ _ _), (43, .bool _)] ⟨rfl, rfl, rfl, rfl, rfl, rfl, rfl, rfl, rfl, rfl, trivial⟩ (fun e16 => ?_)
            refine r_cond rfl (fun hc17 => ?_) (fun hc17 => ?_)
            · skip
              try simp only [decide_eq_true_eq, decide_eq_false_iff_not, Bool.not_eq_true', Bool.not_eq_false', Bool.not_not, Bool.not_true, Bool.not_false, Bool.not_eq_true, Bool.not_eq_false, Int.not_lt, Int.not_le, Bool.and_eq_true, Bool.or_eq_true, Bool.and_eq_false_iff, Bool.or_eq_false_iff] at hc17
              have hfy := (fe_le_1000 (s := signs c (nthL c.length m n)) (r := rd) her).2 ⟨hlt, hc17⟩
              refine r_region' ?_
              refine l_q (q_move (v := .slice _ _ _) rfl rfl) ?_
              refine l_q (q_move (v := .slice _ _ _) rfl rfl) ?_
              have hbl_b1 := hb1.lt
              refine l_o (o_buildSlice (el := 25) (cs := [.slice a10_0 ((nthL c.length m n).length) c10_0]) Try.underlying48 el25 (by decide) (by kernel_rfl) rfl (by decide) rfl ?_)
              intro b18 w18 hzl18 hzr18 _ hb18 hE18 ho18
              have hbs_b18 : w.heap.size ≤ b18 := Nat.le_trans hsz hzl18
              replace hB := below_ext hB hE18 hsz
              replace hb1 := hb1.ext hE18
              replace hos := hos.ext hE18
              replace ho2 := own_ext ho2 hE18
              replace hos2 := hos2.ext hE18
              replace ho10_0 := own_ext ho10_0 hE18
              replace hsz := Nat.le_trans hsz hE18.size
              replace ho18 := own_mono ho18 (show b1 + 1 ≤ _ by omega)
              have hos18 : OwnsI w18 (b1 + 1) 3 [⟨a10_0, c10_0, nthL c.length m n⟩] := OwnsI.snoc (OwnsI.nil _ _ _) (own_mono ho10_0 (by omega))
              have hbl_b1 := hb1.lt
              refine l_o (o_append_map (f := SV.enc) (M2) ([⟨a10_0, c10_0, nthL c.length m n⟩]) Try.underlying48 el25 rfl rfl ho2 rfl (Row.of_owns ho18) (fun _ => rfl) (by (try simp only [List.length_append, List.length_cons, List.length_nil, List.length_take, List.length_drop, List.length_replicate]); omega) (by omega) rfl ?_)
              intro a19 c19 w19 hz19 ho19 hG19
              replace hB := below_own hB hG19 ho2 (by omega) hsz
              replace hsz := Nat.le_trans hsz hG19.size
              replace hb1 := hb1.step hG19 (own_ne ho2 (by omega))
              replace hos := hos.kept ho2 (by decide) hG19
              replace hos2 := hos2.kept ho2 (by decide) hG19
              replace ho10_0 := own_kept ho10_0 ho2 (by decide) hG19
              replace hos18 := hos18.kept ho2 (by decide) hG19
              refine l_q (q_assign (v := .slice _ _ _) rfl rfl) ?_
              refine l_nil ?_
              refine r_forget [(1, .string _), (2, .int _ _), (3, .int _ _), (4, .pointer _), (9, .slice _ _ _), (10, .int _ _), (11, .int _ _), (12, .int _ _)] ⟨rfl, rfl, rfl, rfl, rfl, rfl, rfl, rfl, trivial⟩ (fun e20 => ?_)
              refine r_inBlock ?_
              refine r_region' ?_
              refine l_q (q_move (v := .int _ _) rfl rfl) ?_
              refine l_q (q_add rfl rfl (by omega) rfl) ?_
              refine l_q (q_assign (v := .int _ _) rfl rfl) ?_
              refine l_nil ?_
              refine r_forget [(1, .string _), (2, .int _ _), (3, .int _ _), (4, .pointer _), (9, .slice _ _ _), (10, .int _ _), (11, .int _ _), (12, .int _ _)] ⟨rfl, rfl, rfl, rfl, rfl, rfl, rfl, rfl, trivial⟩ (fun e21 => ?_)
              have hMn2 : ((M2 ++ [⟨a10_0, c10_0, nthL c.length m n⟩] : List SV)).map (·.xs) = (List.range m).flatMap (textsOf c rd er) ++ keptN c rd er m (n + 1) := kept_snoc hM2 (kept_yes hfy) rfl
              exact ih7 (n + 1, a19, c19, M2 ++ [⟨a10_0, c10_0, nthL c.length m n⟩]) _ _ ⟨⟨rfl, rfl, rfl, rfl, rfl, rfl, rfl, (vint_eq (by omega)), trivial⟩, (by omega), hMn2, (by (try rw [List.length_append]); (try simp only [List.length_cons, List.length_nil]); omega), ho19, (OwnsI.snoc hos2 (own_mono ho10_0 (by omega))), hb1, hos, hsz, hB⟩ (by first | omega | (dsimp only; omega))
            · skip
              try simp only [decide_eq_true_eq, decide_eq_false_iff_not, Bool.not_eq_true', Bool.not_eq_false', Bool.not_not, Bool.not_true, Bool.not_false, Bool.not_eq_true, Bool.not_eq_false, Int.not_lt, Int.not_le, Bool.and_eq_true, Bool.or_eq_true, Bool.and_eq_false_iff, Bool.or_eq_false_iff] at hc17
              have hfn : ¬ fe 1048576 (signs c (nthL c.length m n)) rd ≤ er := fun h => by have := ((fe_le_1000 (s := signs c (nthL c.length m n)) (r := rd) her).1 h).2; omega
              refine r_skip ?_
              refine r_inBlock ?_
              refine r_region' ?_
              refine l_q (q_move (v := .int _ _) rfl rfl) ?_
              refine l_q (q_add rfl rfl (by omega) rfl) ?_
              refine l_q (q_assign (v := .int _ _) rfl rfl) ?_
              refine l_nil ?_
              refine r_forget [(1, .string _), (2, .int _ _), (3, .int _ _), (4, .pointer _), (9, .slice _ _ _), (10, .int _ _), (11, .int _ _), (12, .int _ _)] ⟨rfl, rfl, rfl, rfl, rfl, rfl, rfl, rfl, trivial⟩ (fun e22 => ?_)
              have hMn2 := hM2.trans (congrArg _ (kept_no hfn).symm)
              exact ih7 (n + 1, oa2, oc2, M2) _ _ ⟨⟨rfl, rfl, rfl, rfl, rfl, rfl, rfl, (vint_eq (by omega)), trivial⟩, (by omega), hMn2, (by (try rw [List.length_append]); (try simp only [List.length_cons, List.length_nil]); omega), ho2, hos2, hb1, hos, hsz, hB⟩ (by first | omega | (dsimp only; omega))
          · skip
            try simp only [decide_eq_true_eq, decide_eq_false_iff_not, Bool.not_eq_true', Bool.not_eq_false', Bool.not_not, Bool.not_true, Bool.not_false, Bool.not_eq_true, Bool.not_eq_false, Int.not_lt, Int.not_le, Bool.and_eq_true, Bool.or_eq_true, Bool.and_eq_false_iff, Bool.or_eq_false_iff] at hc15
            have hfn : ¬ fe 1048576 (signs c (nthL c.length m n)) rd ≤ er := fun h => by have := ((fe_le_1000 (s := signs c (nthL c.length m n)) (r := rd) her).1 h).1; omega
            refine l_q (q_skip rfl) ?_
            refine l_q (q_skip rfl) ?_
            refine l_q (q_skip rfl) ?_
            refine l_q (q_pick_f (v := .bool _) rfl rfl rfl) ?_
            refine l_nil ?_
            refine r_forget [(1, .string _), (2, .int _ _), (3, .int _ _), (4, .pointer _), (9, .slice _ _ _), (10, .int _ _), (11, .int _ _), (12, .int _ _), (13, .slice _ _ _), (43, .bool _)] ⟨rfl, rfl, rfl, rfl, rfl, rfl, rfl, rfl, rfl, rfl, trivial⟩ (fun e23 => ?_)
            refine r_cond_f rfl ?_
            refine r_skip ?_
            refine r_inBlock ?_
            refine r_region' ?_
            refine l_q (q_move (v := .int _ _) rfl rfl) ?_
            refine l_q (q_add rfl rfl (by omega) rfl) ?_
            refine l_q (q_assign (v := .int _ _) rfl rfl) ?_
            refine l_nil ?_
            refine r_forget [(1, .string _), (2, .int _ _), (3, .int _ _), (4, .pointer _), (9, .slice _ _ _), (10, .int _ _), (11, .int _ _), (12, .int _ _)] ⟨rfl, rfl, rfl, rfl, rfl, rfl, rfl, rfl, trivial⟩ (fun e24 => ?_)
            have hMn2 := hM2.trans (congrArg _ (kept_no hfn).symm)
            exact ih7 (n + 1, oa2, oc2, M2) _ _ ⟨⟨rfl, rfl, rfl, rfl, rfl, rfl, rfl, (vint_eq (by omega)), trivial⟩, (by omega), hMn2, (by (try rw [List.length_append]); (try simp only [List.length_cons, List.length_nil]); omega), ho2, hos2, hb1, hos, hsz, hB⟩ (by first | omega | (dsimp only; omega))
        · skip
          try simp only [decide_eq_true_eq, decide_eq_false_iff_not, Bool.not_eq_true', Bool.not_eq_false', Bool.not_not, Bool.not_true, Bool.not_false, Bool.not_eq_true, Bool.not_eq_false, Int.not_lt, Int.not_le, Bool.and_eq_true, Bool.or_eq_true, Bool.and_eq_false_iff, Bool.or_eq_false_iff] at hc9
          have hnp : c.length ^ m ≤ n := Int.ofNat_le.1 hc9
          refine r_exit rfl ?_
          refine r_region' ?_
          refine l_q (q_move (v := .int _ _) rfl rfl) ?_
          refine l_q (q_fieldAddr (o' := 0) rfl fld24_0 rfl) ?_
          refine l_q (q_load Try.isAgg22 rfl ((hb1.has (o := 0) rfl)) rfl) ?_
          have hbl_b1 := hb1.lt
          refine l_q (q_len rfl Try.underlying22 rfl rfl) ?_
          refine l_q (q_mul rfl rfl (by have h1 : c.length ^ m * c.length ≤ 27 * 3 := Nat.mul_le_mul hpow hc3; rw [← Int.natCast_mul]; omega) rfl) ?_
          refine l_q (q_assign (v := .int _ _) rfl rfl) ?_
          refine l_nil ?_
          refine r_forget [(1, .string _), (2, .int _ _), (3, .int _ _), (4, .pointer _), (9, .slice _ _ _), (10, .int _ _), (11, .int _ _)] ⟨rfl, rfl, rfl, rfl, rfl, rfl, rfl, trivial⟩ (fun e25 => ?_)
          refine r_inBlock ?_
          have hnm : n = c.length ^ m := by omega
          subst hnm
          rw [kept_all hc0, flat_last] at hM2
          have hMn := hM2
          refine r_region' ?_
          refine l_q (q_move (v := .int _ _) rfl rfl) ?_
          refine l_q (q_add rfl rfl (by omega) rfl) ?_
          refine l_q (q_assign (v := .int _ _) rfl rfl) ?_
          refine l_nil ?_
          refine r_forget [(1, .string _), (2, .int _ _), (3, .int _ _), (4, .pointer _), (9, .slice _ _ _), (10, .int _ _), (11, .int _ _)] ⟨rfl, rfl, rfl, rfl, rfl, rfl, rfl, trivial⟩ (fun e26 => ?_)
          exact ih3 (m + 1, oa2, oc2, M2) _ _ ⟨⟨rfl, rfl, rfl, rfl, rfl, (vint_eq (by rw [Nat.pow_succ, Int.natCast_mul])), (vint_eq (by omega)), trivial⟩, (by omega), hMn, (by omega), ho2, hos2, hb1, hsz, hB⟩ (by first | omega | (dsimp only; omega))
    · skip
      try simp only [decide_eq_true_eq, decide_eq_false_iff_not, Bool.not_eq_true', Bool.not_eq_false', Bool.not_not, Bool.not_true, Bool.not_false, Bool.not_eq_true, Bool.not_eq_false, Int.not_lt, Int.not_le, Bool.and_eq_true, Bool.or_eq_true, Bool.and_eq_false_iff, Bool.or_eq_false_iff] at hc5
      refine r_exit rfl ?_
      refine r_seq ?_
      refine r_region' ?_
      refine l_q (q_move (v := .slice _ _ _) rfl rfl) ?_
      refine l_q (q_assign (v := .slice _ _ _) rfl rfl) ?_
      refine l_nil ?_
      refine r_forget [(8, .slice _ _ _)] ⟨rfl, trivial⟩ (fun e27 => ?_)
      refine r_ret_ (vs := [.slice _ _ _]) rfl Try.func35 rfl (.nil _) ⟨rfl, trivial⟩ ?_
      have hml : m = l + 1 := by omega
      subst hml
      exact ⟨oa, oc, M, rfl, own_mono ho (by omega), hos, hM, Ext.of_below hB⟩
end Go.Proofs.Ytkcbgpilfegofaa
