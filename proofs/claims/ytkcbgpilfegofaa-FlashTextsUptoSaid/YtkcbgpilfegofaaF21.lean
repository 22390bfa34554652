/- Contracts. -/
import Derived.Test.YtkcbgpilfegofaaE1
set_option linter.unusedVariables false
set_option linter.unusedSimpArgs false
namespace Go.Proofs.Ytkcbgpilfegofaa
open Go Go.RowKit Go.Gv Go.Fl

def tab0 : List Int := List.replicate 1681 0
theorem tab0_len : tab0.length = 1681 := List.length_replicate
set_option maxRecDepth 1000000 in
theorem tab0_build (w : World) : (Instr.build 127 ⟨[]⟩).run Try.prog w = .ok (.agg ⟨tab0.map vint⟩) w := by kernel_rfl
theorem fe_min (s r : Sg) : fe 1000 s r = min (fe 1048576 s r) 1000 := by
  have key : ∀ (f g : Sg → Sg → Int) (s r : Sg), (∀ k, (stepR k s r).2.2 = true → g (stepR k s r).1 (stepR k s r).2.1 = min (f (stepR k s r).1 (stepR k s r).2.1) 1000) → ∀ (l : List Int) (m m' : Int), m' = min m 1000 → l.foldl (stepMin g s r) m' = min (l.foldl (stepMin f s r) m) 1000 := by
    intro f g s r h l
    induction l with
    | nil => intro m m' hm; exact hm
    | cons k l ih =>
      intro m m' hm
      rw [List.foldl_cons, List.foldl_cons]
      refine ih _ _ ?_
      unfold stepMin
      split
      · rename_i hk
        rw [h k hk]
        have := cost_le k
        omega
      · exact hm
  have h0 : ∀ s r : Sg, start0 1000 s r = min (start0 1048576 s r) 1000 := fun s r => by unfold start0; split <;> decide
  have hN : ∀ (n : Nat) (s r : Sg), feN 1000 n s r = min (feN 1048576 n s r) 1000 := by
    intro n
    induction n with
    | zero => exact h0
    | succ n ih => intro s r; exact key (feN 1048576 n) (feN 1000 n) s r (fun k _ => ih _ _) kinds6 _ _ (h0 s r)
  exact hN _ s r
/-- the cells of the table that are done: behind the row a, and of that row from b on -/
def Done (s r : Sg) (T : List Int) (a b : Nat) : Prop := ∀ i k, i ≤ s.length → k ≤ r.length → (a < i ∨ (i = a ∧ b ≤ k)) → T.getD (0 + i * 41 + k) 0 = fe 1000 (s.drop i) (r.drop k)
theorem Done.none {s r : Sg} {T : List Int} : Done s r T s.length (r.length + 1) := fun i k hi hk h => by omega
theorem Done.row {s r : Sg} {T : List Int} {i b : Nat} (h : Done s r T (i + 1) 0) (hb : b = r.length + 1) : Done s r T i b := fun i' k hi hk h' => h i' k hi hk (by omega)
theorem Done.start {s r : Sg} {T : List Int} {b : Nat} (h : Done s r T (s.length + 1) 0) (hb : b = r.length + 1) : Done s r T s.length b := h.row hb
theorem Done.top {s r : Sg} {T : List Int} : Done s r T (s.length + 1) 0 := fun i k hi hk h => by omega
theorem Done.put {s r : Sg} {T : List Int} {i k : Nat} {x : Int} (h : Done s r T i (k + 1)) (hT : T.length = 1681) (hi : i ≤ s.length) (hk : k ≤ r.length) (hs : s.length ≤ 40) (hr : r.length ≤ 40) (hx : x = fe 1000 (s.drop i) (r.drop k)) : Done s r (T.set (0 + i * 41 + k) x) i k := by
  intro i' k' hi' hk' h'
  by_cases he : i' = i ∧ k' = k
  · obtain ⟨rfl, rfl⟩ := he
    rw [getD_set_eq (by omega)]; exact hx
  · rw [Gv.getD_set_ne (by omega)]
    exact h i' k' hi' hk' (by omega)
theorem step_drop {k : Int} {s r : Sg} {i l : Nat} (h : (stepR k (s.drop i) (r.drop l)).2.2 = true) (hi : i ≤ s.length) (hl : l ≤ r.length) : ∃ j m, (stepR k (s.drop i) (r.drop l)).1 = s.drop j ∧ (stepR k (s.drop i) (r.drop l)).2.1 = r.drop m ∧ j ≤ s.length ∧ m ≤ r.length ∧ (i < j ∨ (j = i ∧ l + 1 ≤ m)) ∧ l ≤ m := by
  have h0 : stepR k (s.drop i) (r.drop l) = ((stepR k (s.drop i) (r.drop l)).1, (stepR k (s.drop i) (r.drop l)).2.1, true) := by rw [← h]
  obtain ⟨t, wr, hp, h1, h2⟩ := step_pc h0
  have hd := stepR_dec h
  have e1 := congrArg List.length h1
  have e2 := congrArg List.length h2
  rw [List.length_append, List.length_drop] at e1 e2
  rw [List.length_drop, List.length_drop] at hd
  refine ⟨i + t.length, l + wr.length, ?_, ?_, by omega, by omega, by omega, by omega⟩
  · rw [← List.drop_drop]; conv => rhs; rw [h1, List.drop_left]
  · rw [← List.drop_drop]; conv => rhs; rw [h2, List.drop_left]
theorem Done.get {s r : Sg} {T : List Int} {i k : Nat} {kd x : Int} (h : Done s r T i (k + 1)) (hT : T.length = 1681) (hi : i ≤ s.length) (hk : k ≤ r.length) (hs : s.length ≤ 40) (hr : r.length ≤ 40) (hst : (stepR kd (s.drop i) (r.drop k)).2.2 = true) :
    (T.set (0 + i * 41 + k) x).getD (0 + ((s.length : Int) - ((stepR kd (s.drop i) (r.drop k)).1.length : Int)).toNat * 41 + ((r.length : Int) - ((stepR kd (s.drop i) (r.drop k)).2.1.length : Int)).toNat) 0 = fe 1000 (stepR kd (s.drop i) (r.drop k)).1 (stepR kd (s.drop i) (r.drop k)).2.1 ∧ (stepR kd (s.drop i) (r.drop k)).1.length ≤ s.length ∧ (stepR kd (s.drop i) (r.drop k)).2.1.length ≤ r.length := by
  obtain ⟨j, l, hA, hB, hj, hl, hlt, _⟩ := step_drop hst hi hk
  have h1 : ((s.length : Int) - ((stepR kd (s.drop i) (r.drop k)).1.length : Int)).toNat = j := by rw [hA, List.length_drop]; omega
  have h2 : ((r.length : Int) - ((stepR kd (s.drop i) (r.drop k)).2.1.length : Int)).toNat = l := by rw [hB, List.length_drop]; omega
  rw [h1, h2, Gv.getD_set_ne (by omega), h j l hj hl hlt, hA, hB, List.length_drop, List.length_drop]
  exact ⟨rfl, by omega, by omega⟩
theorem feA_no {F : Int} {k : Nat} {s r : Sg} (hk : k < 6) (h : (stepR (k : Int) s r).2.2 = false) : feA F (k + 1) s r = feA F k s r := by
  rw [feA_succ hk, stepMin, if_neg (by rw [h]; simp)]
theorem tab_yes {T : List Int} {P Q kd : Nat} {S R : Sg} (hk : kd < 6) (hP : P < T.length) (hst : (stepR (kd : Int) S R).2.2 = true) (hq : (T.set P (feA 1000 kd S R)).getD Q 0 = fe 1000 (stepR (kd : Int) S R).1 (stepR (kd : Int) S R).2.1) :
    (T.set P (feA 1000 kd S R)).set P (min ((T.set P (feA 1000 kd S R)).getD P 0) (cost (kd : Int) + (T.set P (feA 1000 kd S R)).getD Q 0)) = T.set P (feA 1000 (kd + 1) S R) := by
  rw [List.set_set, getD_set_eq hP, hq, feA_succ hk, stepMin, if_pos hst]
theorem tab_st {T : List Int} {i k : Nat} {s r : Sg} {P : Nat} (hi : i = s.length) (hk : k = r.length) : (T.set P 1000).set P 0 = T.set P (start0 1000 (s.drop i) (r.drop k)) := by
  rw [List.set_set, start0, if_pos ⟨by rw [hi, List.drop_length], by rw [hk, List.drop_length]⟩]
theorem tab_st0 {T : List Int} {i k : Nat} {s r : Sg} {P : Nat} (hi : i ≤ s.length) (hk : k ≤ r.length) (h : ¬ (i = s.length ∧ k = r.length)) : T.set P 1000 = T.set P (start0 1000 (s.drop i) (r.drop k)) := by
  rw [start0, if_neg (fun h' => h ?_)]
  obtain ⟨h1, h2⟩ := h'
  have e1 := congrArg List.length h1
  have e2 := congrArg List.length h2
  rw [List.length_drop, List.length_nil] at e1 e2
  omega
def TabOf (s r : Sg) (T : List Int) : Prop := ∀ i k, i ≤ s.length → k ≤ r.length → T.getD (0 + i * 41 + k) 0 = fe 1000 (s.drop i) (r.drop k)
theorem Done.tab {s r : Sg} {T : List Int} (h : Done s r T 0 0) : TabOf s r T := fun i k hi hk => h i k hi hk (by omega)
theorem tab_at {s r : Sg} {T : List Int} {i k : Nat} (h : TabOf s r T) (hi : i ≤ s.length) (hk : k ≤ r.length) : T.getD (0 + ((s.length : Int) - ((s.drop i).length : Int)).toNat * 41 + ((r.length : Int) - ((r.drop k).length : Int)).toNat) 0 = fe 1000 (s.drop i) (r.drop k) := by
  rw [List.length_drop, List.length_drop, show ((s.length : Int) - ((s.length - i : Nat) : Int)).toNat = i by omega, show ((r.length : Int) - ((r.length - k : Nat) : Int)).toNat = k by omega]
  exact h i k hi hk
theorem tab_step {s r : Sg} {T : List Int} {i k : Nat} {kd : Int} (h : TabOf s r T) (hi : i ≤ s.length) (hk : k ≤ r.length) (hst : (stepR kd (s.drop i) (r.drop k)).2.2 = true) :
    T.getD (0 + ((s.length : Int) - ((stepR kd (s.drop i) (r.drop k)).1.length : Int)).toNat * 41 + ((r.length : Int) - ((stepR kd (s.drop i) (r.drop k)).2.1.length : Int)).toNat) 0 = fe 1000 (stepR kd (s.drop i) (r.drop k)).1 (stepR kd (s.drop i) (r.drop k)).2.1 ∧ (stepR kd (s.drop i) (r.drop k)).1.length ≤ s.length ∧ (stepR kd (s.drop i) (r.drop k)).2.1.length ≤ r.length := by
  obtain ⟨j, m, hA, hB, hj, hm, _, _⟩ := step_drop hst hi hk
  rw [hA, hB, tab_at h hj hm, List.length_drop, List.length_drop]
  exact ⟨rfl, by omega, by omega⟩
theorem good_1000 {s r : Sg} {k : Nat} (h : fe 1048576 s r < 1000) (hst : (stepR (k : Int) s r).2.2 = true) : good s r k = decide (cost (k : Int) + fe 1000 (stepR (k : Int) s r).1 (stepR (k : Int) s r).2.1 = fe 1000 s r) := by
  unfold good
  rw [hst, Bool.true_and, fe_min, fe_min, decide_eq_decide]
  have := cost_le (k : Int)
  omega
theorem good_sum {s r : Sg} {k : Nat} (h : good s r k = true) : cost (k : Int) + fe 1048576 (stepR (k : Int) s r).1 (stepR (k : Int) s r).2.1 = fe 1048576 s r := by
  unfold good at h
  rw [Bool.and_eq_true, decide_eq_true_eq] at h
  exact h.2
theorem fe_small {s r : Sg} (hs : s.length ≤ 40) (hr : r.length ≤ 40) : fe 1048576 s r < 1048576 ↔ fe 1048576 s r < 1000 := by
  constructor
  · intro h
    have := (ex_facts (ex_fe h)).2.2.2.2
    omega
  · omega
theorem fe_less {s r : Sg} : fe 1000 s r < 1000 ↔ fe 1048576 s r < 1000 := by rw [fe_min]; omega


theorem ends_ret (s r : Sg) (w : World) (hs : s.length ≤ 40) (hr : r.length ≤ 40) : Ret Try.prog 62 [vstr s, vstr r] w (fun v w' => ∃ bt T, v = ptr bt 0 ∧ Blk w' bt (T.map vint) ∧ w.heap.size ≤ bt ∧ T.length = 1681 ∧ TabOf s r T ∧ Ext w w') := by
  have hB := Below.refl w.heap.size w
  have hsz : w.heap.size ≤ w.heap.size := Nat.le_refl _
  refine ret_of_runs (args := [_, _]) Try.func62 rfl (Nat.le_of_ble_eq_true rfl) (by kernel_rfl) ?_
  refine r_seq ?_
  refine r_region' ?_
  refine l_q (q_assign (v := .pointer none) rfl rfl) ?_
  refine l_nil ?_
  refine r_forget [(0, .string _), (1, .string _)] ⟨rfl, rfl, trivial⟩ (fun e1 => ?_)
  refine r_seq ?_
  refine r_region' ?_
  refine l_q (q_build (v := .agg ⟨(tab0).map vint⟩) tab0_build rfl) ?_
  refine l_o (o_box rfl rfl rfl ?_)
  intro b2 w2 hzl2 hzr2 _ hb2 hE2
  have hbs_b2 : w.heap.size ≤ b2 := Nat.le_trans hsz hzl2
  replace hB := below_ext hB hE2 hsz
  replace hsz := Nat.le_trans hsz hE2.size
  refine l_q (q_assign (v := .pointer _) rfl rfl) ?_
  refine l_nil ?_
  refine r_forget [(0, .string _), (1, .string _), (5, .pointer _)] ⟨rfl, rfl, rfl, trivial⟩ (fun e3 => ?_)
  refine r_seq ?_
  refine r_seq ?_
  have hT := hb2
  have hTl := tab0_len
  refine r_region' ?_
  refine l_q (q_move (v := .string _) rfl rfl) ?_
  refine l_q (q_len_str rfl Try.underlying9 rfl rfl) ?_
  refine l_q (q_assign (v := .int _ _) rfl rfl) ?_
  refine l_nil ?_
  refine r_forget [(0, .string _), (1, .string _), (5, .pointer _), (6, .int _ _)] ⟨rfl, rfl, rfl, rfl, trivial⟩ (fun e4 => ?_)
  refine r_block ?_
  refine r_rounds (α := Nat × (List Int)) (fun ⟨a, T⟩ e wl => Knows e [(0, vstr s), (1, vstr r), (5, ptr b2 0), (6, vint ((a : Int) - 1))] ∧ (a ≤ s.length + 1) ∧ (T.length = 1681) ∧ (Done s r T a 0) ∧ (Blk wl b2 ((T).map vint)) ∧ (w.heap.size ≤ wl.heap.size) ∧ (Below w.heap.size w wl)) (fun ⟨a, T⟩ => a) (s.length + 1, tab0) ?_ ?_
  · skip
    exact ⟨⟨rfl, rfl, rfl, (vint_eq (by omega)), trivial⟩, (by omega), hTl, Done.top, hT, hsz, hB⟩
  · skip
    rintro ⟨a, T⟩ el5 wl5 ⟨hkn, ha, hTl, hD, hT, hsz, hB⟩ ih5
    obtain ⟨e5, rfl⟩ := knows_env hkn
    refine r_seq ?_
    refine r_seq ?_
    refine r_region' ?_
    refine l_q (q_move (v := .int _ _) rfl rfl) ?_
    refine l_q (q_geq rfl rfl rfl) ?_
    refine l_nil ?_
    refine r_forget [(0, .string _), (1, .string _), (5, .pointer _), (6, .int _ _), (17, .bool _)] ⟨rfl, rfl, rfl, rfl, rfl, trivial⟩ (fun e6 => ?_)
    refine r_cond rfl (fun hc7 => ?_) (fun hc7 => ?_)
    · skip
      try simp only [decide_eq_true_eq, decide_eq_false_iff_not, Bool.not_eq_true', Bool.not_eq_false', Bool.not_not, Bool.not_true, Bool.not_false, Bool.not_eq_true, Bool.not_eq_false, Int.not_lt, Int.not_le, Bool.and_eq_true, Bool.or_eq_true, Bool.and_eq_false_iff, Bool.or_eq_false_iff] at hc7
      refine r_skip ?_
      refine r_seq ?_
      refine r_block ?_
      refine r_seq ?_
      obtain ⟨i, hi⟩ : ∃ i : Nat, (a : Int) - 1 = i := ⟨a - 1, by omega⟩
      obtain rfl : a = i + 1 := by omega
      have his : i ≤ s.length := by omega
      refine r_forget [(0, .string _), (1, .string _), (5, .pointer _), (6, vint (i : Int)), (17, .bool _)] ⟨rfl, rfl, rfl, vint_eq hi, rfl, trivial⟩ (fun e8 => ?_)
      refine r_region' ?_
      refine l_q (q_move (v := .string _) rfl rfl) ?_
      refine l_q (q_len_str rfl Try.underlying9 rfl rfl) ?_
      refine l_q (q_assign (v := .int _ _) rfl rfl) ?_
      refine l_nil ?_
      refine r_forget [(0, .string _), (1, .string _), (5, .pointer _), (6, .int _ _), (7, .int _ _)] ⟨rfl, rfl, rfl, rfl, rfl, trivial⟩ (fun e9 => ?_)
      refine r_block ?_
      refine r_rounds (α := Nat × (List Int)) (fun ⟨b, T2⟩ e wl => Knows e [(0, vstr s), (1, vstr r), (5, ptr b2 0), (6, vint (i : Int)), (7, vint ((b : Int) - 1))] ∧ (b ≤ r.length + 1) ∧ (T2.length = 1681) ∧ (Done s r T2 i b) ∧ (Blk wl b2 ((T2).map vint)) ∧ (w.heap.size ≤ wl.heap.size) ∧ (Below w.heap.size w wl)) (fun ⟨b, T2⟩ => b) (r.length + 1, T) ?_ ?_
      · skip
        exact ⟨⟨rfl, rfl, rfl, rfl, (vint_eq (by omega)), trivial⟩, (by omega), hTl, (hD.row rfl), hT, hsz, hB⟩
      · skip
        rintro ⟨b, T2⟩ el10 wl10 ⟨hkn, hb, hTl2, hD2, hT, hsz, hB⟩ ih10
        obtain ⟨e10, rfl⟩ := knows_env hkn
        refine r_seq ?_
        refine r_seq ?_
        refine r_region' ?_
        refine l_q (q_move (v := .int _ _) rfl rfl) ?_
        refine l_q (q_geq rfl rfl rfl) ?_
        refine l_nil ?_
        refine r_forget [(0, .string _), (1, .string _), (5, .pointer _), (6, .int _ _), (7, .int _ _), (23, .bool _)] ⟨rfl, rfl, rfl, rfl, rfl, rfl, trivial⟩ (fun e11 => ?_)
        refine r_cond rfl (fun hc12 => ?_) (fun hc12 => ?_)
        · skip
          try simp only [decide_eq_true_eq, decide_eq_false_iff_not, Bool.not_eq_true', Bool.not_eq_false', Bool.not_not, Bool.not_true, Bool.not_false, Bool.not_eq_true, Bool.not_eq_false, Int.not_lt, Int.not_le, Bool.and_eq_true, Bool.or_eq_true, Bool.and_eq_false_iff, Bool.or_eq_false_iff] at hc12
          refine r_skip ?_
          refine r_seq ?_
          refine r_block ?_
          refine r_seq ?_
          obtain ⟨k, hk⟩ : ∃ k : Nat, (b : Int) - 1 = k := ⟨b - 1, by omega⟩
          obtain rfl : b = k + 1 := by omega
          have hkr : k ≤ r.length := by omega
          refine r_forget [(0, .string _), (1, .string _), (5, .pointer _), (6, .int _ _), (7, vint (k : Int)), (23, .bool _)] ⟨rfl, rfl, rfl, rfl, vint_eq hk, rfl, trivial⟩ (fun e13 => ?_)
          refine r_region' ?_
          refine l_q (q_move (v := .pointer _) rfl rfl) ?_
          refine l_q (q_move (v := .int _ _) rfl rfl) ?_
          refine l_q (q_move (v := .int _ _) rfl rfl) ?_
          refine l_q (q_nilCheck rfl rfl) ?_
          refine l_q (q_indexAddr_arr Try.underlying127 Try.sizeOf101 rfl rfl (by omega) rfl) ?_
          refine l_q (q_indexAddr_arr1 Try.underlying101 Try.sizeOf3 rfl rfl (by omega) rfl) ?_
          refine l_o (o_store1 (v := vint 1000) (o := 0 + i * 41 + k) Try.sizeOf3 rfl rfl rfl rfl hT (by rw [List.length_map]; (try simp only [List.length_set]); omega) rfl ?_)
          intro w14 hz14 hT hG14
          rw [imap_set] at hT
          replace hB := below_upd hB hG14 hsz (by omega)
          replace hsz : w.heap.size ≤ w14.heap.size := by rw [hz14]; exact hsz
          refine l_nil ?_
          refine r_forget [(0, .string _), (1, .string _), (5, .pointer _), (6, .int _ _), (7, .int _ _)] ⟨rfl, rfl, rfl, rfl, rfl, trivial⟩ (fun e15 => ?_)
          refine r_seq ?_
          refine r_ifj (α := Unit) (fun _ e wl => Knows e [(0, vstr s), (1, vstr r), (5, ptr b2 0), (6, vint (i : Int)), (7, vint (k : Int))] ∧ (Blk wl b2 (((T2).set (0 + i * 41 + k) (start0 1000 (s.drop i) (r.drop k))).map vint)) ∧ (w.heap.size ≤ wl.heap.size) ∧ (Below w.heap.size w wl)) ?_ ?_
          · skip
            rintro _ el16 wl16 ⟨hkn, hT, hsz, hB⟩
            obtain ⟨e16, rfl⟩ := knows_env hkn
            refine r_seq ?_
            refine r_region' ?_
            refine l_q (q_assign (v := .int _ _) rfl rfl) ?_
            refine l_nil ?_
            refine r_block ?_
            refine r_rounds (α := Nat) (fun kd e wl => Knows e [(0, vstr s), (1, vstr r), (5, ptr b2 0), (6, vint (i : Int)), (7, vint (k : Int)), (8, vint (kd : Int))] ∧ (kd ≤ 6) ∧ (Blk wl b2 (((T2).set (0 + i * 41 + k) (feA 1000 kd (s.drop i) (r.drop k))).map vint)) ∧ (w.heap.size ≤ wl.heap.size) ∧ (Below w.heap.size w wl)) (fun kd => 6 - kd) 0 ?_ ?_
            · skip
              exact ⟨⟨rfl, rfl, rfl, rfl, rfl, rfl, trivial⟩, (by omega), hT, hsz, hB⟩
            · skip
              rintro kd el17 wl17 ⟨hkn, hkd, hT, hsz, hB⟩ ih17
              obtain ⟨e17, rfl⟩ := knows_env hkn
              refine r_seq ?_
              refine r_seq ?_
              refine r_region' ?_
              refine l_q (q_move (v := .int _ _) rfl rfl) ?_
              refine l_q (q_leq rfl rfl rfl) ?_
              refine l_nil ?_
              refine r_forget [(0, .string _), (1, .string _), (5, .pointer _), (6, .int _ _), (7, .int _ _), (8, .int _ _), (49, .bool _)] ⟨rfl, rfl, rfl, rfl, rfl, rfl, rfl, trivial⟩ (fun e18 => ?_)
              refine r_cond rfl (fun hc19 => ?_) (fun hc19 => ?_)
              · skip
                try simp only [decide_eq_true_eq, decide_eq_false_iff_not, Bool.not_eq_true', Bool.not_eq_false', Bool.not_not, Bool.not_true, Bool.not_false, Bool.not_eq_true, Bool.not_eq_false, Int.not_lt, Int.not_le, Bool.and_eq_true, Bool.or_eq_true, Bool.and_eq_false_iff, Bool.or_eq_false_iff] at hc19
                have hkd6 : kd < 6 := by omega
                refine r_skip ?_
                refine r_seq ?_
                refine r_block ?_
                refine r_seq ?_
                refine r_draw ext_refl' ext_trans' [0, 1, 2, 3, 4, 5, 6, 7, 8, 9, 10, 11, 12, 13, 14] [7] 6 (by kernel_rfl) (by kernel_rfl) ?_
                intro w20 _ hE20
                replace hB := below_ext hB hE20 hsz
                replace hT := hT.ext hE20
                replace hsz := Nat.le_trans hsz hE20.size
                refine m_q rfl rfl (fun w' hC' => q_move (v := .int _ _) rfl rfl) ?_
                refine m_q rfl rfl (fun w' hC' => q_move (v := .string _) rfl rfl) ?_
                refine m_q rfl rfl (fun w' hC' => q_move (v := .int _ _) rfl rfl) ?_
                refine m_q rfl rfl (fun w' hC' => q_slice_str_lo Try.underlying9 rfl rfl (by omega) rfl) ?_
                refine m_q rfl rfl (fun w' hC' => q_move (v := .string _) rfl rfl) ?_
                refine m_q rfl rfl (fun w' hC' => q_move (v := .int _ _) rfl rfl) ?_
                refine m_q rfl rfl (fun w' hC' => q_slice_str_lo Try.underlying9 rfl rfl (by omega) rfl) ?_
                refine m_o rfl rfl (o_call Try.call63 rfl (step_ret (kd : Int) (s.drop i) (r.drop k) _ (by rw [List.length_drop]; omega) (by rw [List.length_drop]; omega)) rfl ?_)
                rintro _ w21 ⟨rfl, hE21⟩
                refine ⟨hE21, ?_⟩
                replace hB := below_ext hB hE21 hsz
                replace hT := hT.ext hE21
                replace hsz := Nat.le_trans hsz hE21.size
                refine m_q rfl rfl (fun w' hC' => q_move (v := .tuple _) rfl rfl) ?_
                refine m_q rfl rfl (fun w' hC' => q_extract (vs := [_, _, _]) (v := .string _) rfl rfl rfl) ?_
                refine m_q rfl rfl (fun w' hC' => q_extract (vs := [_, _, _]) (v := .string _) rfl rfl rfl) ?_
                refine m_q rfl rfl (fun w' hC' => q_extract (vs := [_, _, _]) (v := .bool _) rfl rfl rfl) ?_
                refine m_q rfl rfl (fun w' hC' => q_assign (v := .string _) rfl rfl) ?_
                refine m_q rfl rfl (fun w' hC' => q_assign (v := .string _) rfl rfl) ?_
                refine m_q rfl rfl (fun w' hC' => q_assign (v := .bool _) rfl rfl) ?_
                refine m_nil ?_
                refine r_forget [(0, .string _), (1, .string _), (5, .pointer _), (6, .int _ _), (7, .int _ _), (8, .int _ _), (9, .string _), (10, .string _), (11, .bool _)] ⟨rfl, rfl, rfl, rfl, rfl, rfl, rfl, rfl, rfl, trivial⟩ (fun e22 => ?_)
                refine r_seq ?_
                refine r_region' ?_
                refine l_q (q_move (v := .bool _) rfl rfl) ?_
                refine l_nil ?_
                refine r_forget [(0, .string _), (1, .string _), (5, .pointer _), (6, .int _ _), (7, .int _ _), (8, .int _ _), (9, .string _), (10, .string _), (64, .bool _)] ⟨rfl, rfl, rfl, rfl, rfl, rfl, rfl, rfl, rfl, trivial⟩ (fun e23 => ?_)
                refine r_cond rfl (fun hc24 => ?_) (fun hc24 => ?_)
                · skip
                  try simp only [decide_eq_true_eq, decide_eq_false_iff_not, Bool.not_eq_true', Bool.not_eq_false', Bool.not_not, Bool.not_true, Bool.not_false, Bool.not_eq_true, Bool.not_eq_false, Int.not_lt, Int.not_le, Bool.and_eq_true, Bool.or_eq_true, Bool.and_eq_false_iff, Bool.or_eq_false_iff] at hc24
                  have hst := hc24
                  have hq := Done.get (x := feA 1000 kd (s.drop i) (r.drop k)) hD2 hTl2 his hkr hs hr hst
                  refine r_draw ext_refl' ext_trans' [0, 1, 2, 3, 4, 5, 6, 7, 8, 9, 10, 12, 13, 14, 15, 16, 17, 18, 19, 20, 21, 22, 23, 24, 25, 26, 29, 30, 11, 27, 28, 31, 32] [11, 32, 1032] 4 (by kernel_rfl) (by kernel_rfl) ?_
                  intro w25 _ hE25
                  replace hB := below_ext hB hE25 hsz
                  replace hT := hT.ext hE25
                  replace hsz := Nat.le_trans hsz hE25.size
                  refine m_q rfl rfl (fun w' hC' => q_move (v := .pointer _) rfl rfl) ?_
                  refine m_q rfl rfl (fun w' hC' => q_move (v := .int _ _) rfl rfl) ?_
                  refine m_q rfl rfl (fun w' hC' => q_move (v := .int _ _) rfl rfl) ?_
                  refine m_q rfl rfl (fun w' hC' => q_move (v := .pointer _) rfl rfl) ?_
                  refine m_q rfl rfl (fun w' hC' => q_move (v := .int _ _) rfl rfl) ?_
                  refine m_q rfl rfl (fun w' hC' => q_move (v := .int _ _) rfl rfl) ?_
                  refine m_q rfl rfl (fun w' hC' => q_nilCheck rfl rfl) ?_
                  refine m_q rfl rfl (fun w' hC' => q_indexAddr_arr Try.underlying127 Try.sizeOf101 rfl rfl (by omega) rfl) ?_
                  refine m_q rfl rfl (fun w' hC' => q_indexAddr_arr1 Try.underlying101 Try.sizeOf3 rfl rfl (by omega) rfl) ?_
                  refine m_q rfl rfl (fun w' hC' => q_load Try.isAgg3 rfl (((hT.has (o := 0 + i * 41 + k) (imap (by (try simp only [List.length_set]); omega))).ext hC')) rfl) ?_
                  refine m_q rfl rfl (fun w' hC' => q_move (v := .int _ _) rfl rfl) ?_
                  refine m_q rfl rfl (fun w' hC' => q_move (v := .pointer _) rfl rfl) ?_
                  refine m_q rfl rfl (fun w' hC' => q_move (v := .string _) rfl rfl) ?_
                  refine m_q rfl rfl (fun w' hC' => q_len_str rfl Try.underlying9 rfl rfl) ?_
                  refine m_q rfl rfl (fun w' hC' => q_move (v := .string _) rfl rfl) ?_
                  refine m_q rfl rfl (fun w' hC' => q_len_str rfl Try.underlying9 rfl rfl) ?_
                  refine m_q rfl rfl (fun w' hC' => q_sub rfl rfl (by omega) rfl) ?_
                  refine m_q rfl rfl (fun w' hC' => q_move (v := .string _) rfl rfl) ?_
                  refine m_q rfl rfl (fun w' hC' => q_len_str rfl Try.underlying9 rfl rfl) ?_
                  refine m_q rfl rfl (fun w' hC' => q_move (v := .string _) rfl rfl) ?_
                  refine m_q rfl rfl (fun w' hC' => q_len_str rfl Try.underlying9 rfl rfl) ?_
                  refine m_q rfl rfl (fun w' hC' => q_sub rfl rfl (by omega) rfl) ?_
                  refine m_q rfl rfl (fun w' hC' => q_nilCheck rfl rfl) ?_
                  refine m_q rfl rfl (fun w' hC' => q_indexAddr_arr Try.underlying127 Try.sizeOf101 rfl rfl (by omega) rfl) ?_
                  refine m_q rfl rfl (fun w' hC' => q_indexAddr_arr1 Try.underlying101 Try.sizeOf3 rfl rfl (by omega) rfl) ?_
                  refine m_q rfl rfl (fun w' hC' => q_load Try.isAgg3 rfl (((hT.has (o := 0 + (((s).length : Int) - (((stepR (kd : Int) (s.drop i) (r.drop k)).1).length : Int)).toNat * 41 + (((r).length : Int) - (((stepR (kd : Int) (s.drop i) (r.drop k)).2.1).length : Int)).toNat) (imap (by (try simp only [List.length_set]); omega))).ext hC')) rfl) ?_
                  refine m_q rfl rfl (fun w' hC' => q_nilCheck rfl rfl) ?_
                  refine m_q rfl rfl (fun w' hC' => q_indexAddr_arr Try.underlying127 Try.sizeOf101 rfl rfl (by omega) rfl) ?_
                  refine m_o rfl rfl (o_call Try.call64 rfl (cost_ret _ _) rfl ?_)
                  rintro _ w26 ⟨rfl, rfl⟩
                  refine ⟨Ext.refl _, ?_⟩
                  refine m_q rfl rfl (fun w' hC' => q_add rfl rfl (by rw [hq.1]; have := fe_bounds (F := 1000) (by decide) (stepR (kd : Int) (s.drop i) (r.drop k)).1 (stepR (kd : Int) (s.drop i) (r.drop k)).2.1; have := cost_le (kd : Int); omega) rfl) ?_
                  refine m_q rfl rfl (fun w' hC' => q_min rfl rfl rfl) ?_
                  refine m_q rfl rfl (fun w' hC' => q_indexAddr_arr1 Try.underlying101 Try.sizeOf3 rfl rfl (by omega) rfl) ?_
                  refine m_last rfl rfl rfl (o_store1 (v := vint (min (((T2).set (0 + i * 41 + k) (feA 1000 kd (s.drop i) (r.drop k))).getD (0 + i * 41 + k) 0) ((cost (kd : Int)) + (((T2).set (0 + i * 41 + k) (feA 1000 kd (s.drop i) (r.drop k))).getD (0 + (((s).length : Int) - (((stepR (kd : Int) (s.drop i) (r.drop k)).1).length : Int)).toNat * 41 + (((r).length : Int) - (((stepR (kd : Int) (s.drop i) (r.drop k)).2.1).length : Int)).toNat) 0)))) (o := 0 + i * 41 + k) Try.sizeOf3 rfl rfl rfl rfl hT (by rw [List.length_map]; (try simp only [List.length_set]); omega) rfl ?_)
                  intro w27 hz27 hT hG27
                  rw [imap_set] at hT
                  replace hB := below_upd hB hG27 hsz (by omega)
                  replace hsz : w.heap.size ≤ w27.heap.size := by rw [hz27]; exact hsz
                  refine m_nil ?_
                  refine r_forget [(0, .string _), (1, .string _), (5, .pointer _), (6, .int _ _), (7, .int _ _), (8, .int _ _)] ⟨rfl, rfl, rfl, rfl, rfl, rfl, trivial⟩ (fun e28 => ?_)
                  refine r_inBlock ?_
                  refine r_region' ?_
                  refine l_q (q_move (v := .int _ _) rfl rfl) ?_
                  refine l_q (q_add rfl rfl (by omega) rfl) ?_
                  refine l_q (q_assign (v := .int _ _) rfl rfl) ?_
                  refine l_nil ?_
                  refine r_forget [(0, .string _), (1, .string _), (5, .pointer _), (6, .int _ _), (7, .int _ _), (8, .int _ _)] ⟨rfl, rfl, rfl, rfl, rfl, rfl, trivial⟩ (fun e29 => ?_)
                  exact ih17 (kd + 1) _ _ ⟨⟨rfl, rfl, rfl, rfl, rfl, by first | rfl | exact vint_eq (by omega), trivial⟩, (by omega), (blk_eq (tab_yes hkd6 (by omega) hst hq.1) hT), hsz, hB⟩ (by first | omega | (dsimp only; omega))
                · skip
                  try simp only [decide_eq_true_eq, decide_eq_false_iff_not, Bool.not_eq_true', Bool.not_eq_false', Bool.not_not, Bool.not_true, Bool.not_false, Bool.not_eq_true, Bool.not_eq_false, Int.not_lt, Int.not_le, Bool.and_eq_true, Bool.or_eq_true, Bool.and_eq_false_iff, Bool.or_eq_false_iff] at hc24
                  have hst := hc24
                  refine r_skip ?_
                  refine r_inBlock ?_
                  refine r_region' ?_
                  refine l_q (q_move (v := .int _ _) rfl rfl) ?_
                  refine l_q (q_add rfl rfl (by omega) rfl) ?_
                  refine l_q (q_assign (v := .int _ _) rfl rfl) ?_
                  refine l_nil ?_
                  refine r_forget [(0, .string _), (1, .string _), (5, .pointer _), (6, .int _ _), (7, .int _ _), (8, .int _ _)] ⟨rfl, rfl, rfl, rfl, rfl, rfl, trivial⟩ (fun e30 => ?_)
                  exact ih17 (kd + 1) _ _ ⟨⟨rfl, rfl, rfl, rfl, rfl, by first | rfl | exact vint_eq (by omega), trivial⟩, (by omega), (blk_eq (by rw [feA_no hkd6 hst]) hT), hsz, hB⟩ (by first | omega | (dsimp only; omega))
              · skip
                try simp only [decide_eq_true_eq, decide_eq_false_iff_not, Bool.not_eq_true', Bool.not_eq_false', Bool.not_not, Bool.not_true, Bool.not_false, Bool.not_eq_true, Bool.not_eq_false, Int.not_lt, Int.not_le, Bool.and_eq_true, Bool.or_eq_true, Bool.and_eq_false_iff, Bool.or_eq_false_iff] at hc19
                refine r_exit rfl ?_
                refine r_inBlock ?_
                obtain rfl : kd = 6 := by omega
                refine r_region' ?_
                refine l_q (q_move (v := .int _ _) rfl rfl) ?_
                refine l_q (q_sub rfl rfl (by omega) rfl) ?_
                refine l_q (q_assign (v := .int _ _) rfl rfl) ?_
                refine l_nil ?_
                refine r_forget [(0, .string _), (1, .string _), (5, .pointer _), (6, .int _ _), (7, .int _ _)] ⟨rfl, rfl, rfl, rfl, rfl, trivial⟩ (fun e31 => ?_)
                exact ih10 (k, (T2).set (0 + i * 41 + k) (feA 1000 6 (s.drop i) (r.drop k))) _ _ ⟨⟨rfl, rfl, rfl, rfl, rfl, trivial⟩, (by omega), (by rw [List.length_set]; exact hTl2), (hD2.put hTl2 (by omega) (by omega) hs hr (fe_six _ _)), hT, hsz, hB⟩ (by first | omega | (dsimp only; omega))
          · intro hj16
            refine r_seq ?_
            refine r_region' ?_
            refine l_q (q_move (v := .int _ _) rfl rfl) ?_
            refine l_q (q_move (v := .string _) rfl rfl) ?_
            refine l_q (q_len_str rfl Try.underlying9 rfl rfl) ?_
            refine l_q (q_eql rfl rfl rfl) ?_
            refine l_q (q_move (v := .bool _) rfl rfl) ?_
            refine l_part 36 rfl (fun hc32 => ?_) (fun hc32 => ?_)
            · skip
              try simp only [decide_eq_true_eq, decide_eq_false_iff_not, Bool.not_eq_true', Bool.not_eq_false', Bool.not_not, Bool.not_true, Bool.not_false, Bool.not_eq_true, Bool.not_eq_false, Int.not_lt, Int.not_le, Bool.and_eq_true, Bool.or_eq_true, Bool.and_eq_false_iff, Bool.or_eq_false_iff] at hc32
              refine l_q (q_move (v := .int _ _) rfl rfl) ?_
              refine l_q (q_move (v := .string _) rfl rfl) ?_
              refine l_q (q_len_str rfl Try.underlying9 rfl rfl) ?_
              refine l_q (q_eql rfl rfl rfl) ?_
              refine l_q (q_pick_t (v := .bool _) rfl rfl rfl) ?_
              refine l_nil ?_
              refine r_forget [(0, .string _), (1, .string _), (5, .pointer _), (6, .int _ _), (7, .int _ _), (41, .bool _)] ⟨rfl, rfl, rfl, rfl, rfl, rfl, trivial⟩ (fun e33 => ?_)
              refine r_cond rfl (fun hc34 => ?_) (fun hc34 => ?_)
              · skip
                try simp only [decide_eq_true_eq, decide_eq_false_iff_not, Bool.not_eq_true', Bool.not_eq_false', Bool.not_not, Bool.not_true, Bool.not_false, Bool.not_eq_true, Bool.not_eq_false, Int.not_lt, Int.not_le, Bool.and_eq_true, Bool.or_eq_true, Bool.and_eq_false_iff, Bool.or_eq_false_iff] at hc34
                refine r_region' ?_
                refine l_q (q_move (v := .pointer _) rfl rfl) ?_
                refine l_q (q_move (v := .int _ _) rfl rfl) ?_
                refine l_q (q_move (v := .int _ _) rfl rfl) ?_
                refine l_q (q_nilCheck rfl rfl) ?_
                refine l_q (q_indexAddr_arr Try.underlying127 Try.sizeOf101 rfl rfl (by omega) rfl) ?_
                refine l_q (q_indexAddr_arr1 Try.underlying101 Try.sizeOf3 rfl rfl (by omega) rfl) ?_
                refine l_o (o_store1 (v := vint 0) (o := 0 + i * 41 + k) Try.sizeOf3 rfl rfl rfl rfl hT (by rw [List.length_map]; (try simp only [List.length_set]); omega) rfl ?_)
                intro w35 hz35 hT hG35
                rw [imap_set] at hT
                replace hB := below_upd hB hG35 hsz (by omega)
                replace hsz : w.heap.size ≤ w35.heap.size := by rw [hz35]; exact hsz
                refine l_nil ?_
                refine r_forget [(0, .string _), (1, .string _), (5, .pointer _), (6, .int _ _), (7, .int _ _)] ⟨rfl, rfl, rfl, rfl, rfl, trivial⟩ (fun e36 => ?_)
                exact hj16 () _ _ ⟨⟨rfl, rfl, rfl, rfl, rfl, trivial⟩, (blk_eq (tab_st (by omega) (by omega)) hT), hsz, hB⟩
              · skip
                try simp only [decide_eq_true_eq, decide_eq_false_iff_not, Bool.not_eq_true', Bool.not_eq_false', Bool.not_not, Bool.not_true, Bool.not_false, Bool.not_eq_true, Bool.not_eq_false, Int.not_lt, Int.not_le, Bool.and_eq_true, Bool.or_eq_true, Bool.and_eq_false_iff, Bool.or_eq_false_iff] at hc34
                refine r_skip ?_
                exact hj16 () _ _ ⟨⟨rfl, rfl, rfl, rfl, rfl, trivial⟩, (blk_eq (tab_st0 (by omega) (by omega) (by omega)) hT), hsz, hB⟩
            · skip
              try simp only [decide_eq_true_eq, decide_eq_false_iff_not, Bool.not_eq_true', Bool.not_eq_false', Bool.not_not, Bool.not_true, Bool.not_false, Bool.not_eq_true, Bool.not_eq_false, Int.not_lt, Int.not_le, Bool.and_eq_true, Bool.or_eq_true, Bool.and_eq_false_iff, Bool.or_eq_false_iff] at hc32
              refine l_q (q_skip rfl) ?_
              refine l_q (q_skip rfl) ?_
              refine l_q (q_skip rfl) ?_
              refine l_q (q_skip rfl) ?_
              refine l_q (q_pick_f (v := .bool _) rfl rfl rfl) ?_
              refine l_nil ?_
              refine r_forget [(0, .string _), (1, .string _), (5, .pointer _), (6, .int _ _), (7, .int _ _), (41, .bool _)] ⟨rfl, rfl, rfl, rfl, rfl, rfl, trivial⟩ (fun e37 => ?_)
              refine r_cond_f rfl ?_
              refine r_skip ?_
              exact hj16 () _ _ ⟨⟨rfl, rfl, rfl, rfl, rfl, trivial⟩, (blk_eq (tab_st0 (by omega) (by omega) (by omega)) hT), hsz, hB⟩
        · skip
          try simp only [decide_eq_true_eq, decide_eq_false_iff_not, Bool.not_eq_true', Bool.not_eq_false', Bool.not_not, Bool.not_true, Bool.not_false, Bool.not_eq_true, Bool.not_eq_false, Int.not_lt, Int.not_le, Bool.and_eq_true, Bool.or_eq_true, Bool.and_eq_false_iff, Bool.or_eq_false_iff] at hc12
          refine r_exit rfl ?_
          refine r_inBlock ?_
          obtain rfl : b = 0 := by omega
          refine r_region' ?_
          refine l_q (q_move (v := .int _ _) rfl rfl) ?_
          refine l_q (q_sub rfl rfl (by omega) rfl) ?_
          refine l_q (q_assign (v := .int _ _) rfl rfl) ?_
          refine l_nil ?_
          refine r_forget [(0, .string _), (1, .string _), (5, .pointer _), (6, .int _ _)] ⟨rfl, rfl, rfl, rfl, trivial⟩ (fun e38 => ?_)
          exact ih5 (i, T2) _ _ ⟨⟨rfl, rfl, rfl, rfl, trivial⟩, (by omega), hTl2, hD2, hT, hsz, hB⟩ (by first | omega | (dsimp only; omega))
    · skip
      try simp only [decide_eq_true_eq, decide_eq_false_iff_not, Bool.not_eq_true', Bool.not_eq_false', Bool.not_not, Bool.not_true, Bool.not_false, Bool.not_eq_true, Bool.not_eq_false, Int.not_lt, Int.not_le, Bool.and_eq_true, Bool.or_eq_true, Bool.and_eq_false_iff, Bool.or_eq_false_iff] at hc7
      refine r_exit rfl ?_
      refine r_seq ?_
      obtain rfl : a = 0 := by omega
      refine r_region' ?_
      refine l_q (q_move (v := .pointer _) rfl rfl) ?_
      refine l_q (q_assign (v := .pointer _) rfl rfl) ?_
      refine l_nil ?_
      refine r_forget [(4, .pointer _)] ⟨rfl, trivial⟩ (fun e39 => ?_)
      refine r_ret_ (vs := [.pointer _]) rfl Try.func62 rfl (.nil _) ⟨rfl, trivial⟩ ?_
      exact ⟨b2, T, rfl, hT, hbs_b2, hTl, hD.tab, Ext.of_below hB⟩
theorem rerrors_ret (s r : Sg) (w : World) (hs : s.length ≤ 40) (hr : r.length ≤ 40) : Ret Try.prog 29 [vstr s, vstr r] w (fun v w' => v = .tuple ⟨[vint (fe 1000 s r), .bool (decide (fe 1000 s r < 1000))]⟩ ∧ Ext w w') := by
  have hB := Below.refl w.heap.size w
  have hsz : w.heap.size ≤ w.heap.size := Nat.le_refl _
  refine ret_of_runs (args := [_, _]) Try.func29 rfl (Nat.le_of_ble_eq_true rfl) (by kernel_rfl) ?_
  refine r_seq ?_
  refine r_region' ?_
  refine l_q (q_assign (v := .int _ _) rfl rfl) ?_
  refine l_q (q_assign (v := .bool _) rfl rfl) ?_
  refine l_nil ?_
  refine r_forget [(0, .string _), (1, .string _)] ⟨rfl, rfl, trivial⟩ (fun e1 => ?_)
  refine r_seq ?_
  refine r_region' ?_
  refine l_q (q_move (v := .string _) rfl rfl) ?_
  refine l_q (q_move (v := .string _) rfl rfl) ?_
  refine l_o (o_call Try.call62 rfl (ends_ret s r _ (by omega) (by omega)) rfl ?_)
  have hszp2 : w.heap.size ≤ w.heap.size := hsz
  rintro _ w2 ⟨bt2, T2, rfl, hT2, hbl2, hTl2, hTab, hE2⟩
  replace hB := below_ext hB hE2 hsz
  replace hsz := Nat.le_trans hsz hE2.size
  have hbs_bt2 : w.heap.size ≤ bt2 := Nat.le_trans hszp2 hbl2
  refine l_q (q_nilCheck rfl rfl) ?_
  refine l_q (q_indexAddr_arr Try.underlying127 Try.sizeOf101 rfl rfl (by decide) rfl) ?_
  refine l_q (q_indexAddr_arr1 Try.underlying101 Try.sizeOf3 rfl rfl (by decide) rfl) ?_
  refine l_q (q_load Try.isAgg3 rfl ((hT2.has (o := 0 + 0 * 41 + 0) (imap (by omega)))) rfl) ?_
  refine l_q (q_assign (v := .int _ _) rfl rfl) ?_
  refine l_nil ?_
  refine r_forget [(6, .int _ _)] ⟨rfl, trivial⟩ (fun e3 => ?_)
  refine r_seq ?_
  refine r_region' ?_
  refine l_q (q_move (v := .int _ _) rfl rfl) ?_
  refine l_q (q_move (v := .int _ _) rfl rfl) ?_
  refine l_q (q_lss rfl rfl rfl) ?_
  refine l_q (q_assign (v := .int _ _) rfl rfl) ?_
  refine l_q (q_assign (v := .bool _) rfl rfl) ?_
  refine l_nil ?_
  refine r_forget [(4, .int _ _), (5, .bool _)] ⟨rfl, rfl, trivial⟩ (fun e4 => ?_)
  refine r_ret_ (vs := [.int _ _, .bool _]) rfl Try.func29 rfl (.nil _) ⟨rfl, rfl, trivial⟩ ?_
  have h0 := hTab 0 0 (Nat.zero_le _) (Nat.zero_le _)
  exact ⟨tup2 (vint_eq h0) (vbool_eq (by rw [show ∀ a b : Int, a = b → decide (a < 1000) = decide (b < 1000) from fun a b h => by rw [h]]; exact h0)), Ext.of_below hB⟩
theorem rexplain_ret (s r : Sg) (w : World) (hs : s.length ≤ 40) (hr : r.length ≤ 40) (hfe0 : fe 1048576 s r < 1000) : Ret Try.prog 31 [vstr s, vstr r] w (fun v w' => ∃ ra0 rc0, v = .slice ra0 (ex s r).length rc0 ∧ w'.ownsRow w.heap.size 3 1 (.slice ra0 (ex s r).length rc0) (ex s r).length ((ex s r).map vint) ∧ Ext w w') := by
  have hB := Below.refl w.heap.size w
  have hsz : w.heap.size ≤ w.heap.size := Nat.le_refl _
  refine ret_of_runs (args := [_, _]) Try.func31 rfl (Nat.le_of_ble_eq_true rfl) (by kernel_rfl) ?_
  refine r_seq ?_
  refine r_region' ?_
  refine l_q (q_assign (v := .slice _ _ _) rfl rfl) ?_
  refine l_nil ?_
  refine r_forget [(0, .string _), (1, .string _)] ⟨rfl, rfl, trivial⟩ (fun e1 => ?_)
  refine r_seq ?_
  refine r_region' ?_
  refine l_q (q_move (v := .string _) rfl rfl) ?_
  refine l_q (q_move (v := .string _) rfl rfl) ?_
  refine l_o (o_call Try.call62 rfl (ends_ret s r _ (by omega) (by omega)) rfl ?_)
  have hszp2 : w.heap.size ≤ w.heap.size := hsz
  rintro _ w2 ⟨bt2, T2, rfl, hT2, hbl2, hTl2, hTab, hE2⟩
  replace hB := below_ext hB hE2 hsz
  replace hsz := Nat.le_trans hsz hE2.size
  have hbs_bt2 : w.heap.size ≤ bt2 := Nat.le_trans hszp2 hbl2
  refine l_q (q_assign (v := .pointer _) rfl rfl) ?_
  refine l_nil ?_
  refine r_forget [(0, .string _), (1, .string _), (5, .pointer _)] ⟨rfl, rfl, rfl, trivial⟩ (fun e3 => ?_)
  refine r_seq ?_
  refine r_region' ?_
  refine l_q (q_assign (v := .slice _ _ _) rfl rfl) ?_
  refine l_nil ?_
  refine r_seq ?_
  refine r_region' ?_
  refine l_q (q_move (v := .string _) rfl rfl) ?_
  refine l_q (q_move (v := .string _) rfl rfl) ?_
  refine l_q (q_assign (v := .string _) rfl rfl) ?_
  refine l_q (q_assign (v := .string _) rfl rfl) ?_
  refine l_nil ?_
  refine r_forget [(0, .string _), (1, .string _), (5, .pointer _), (6, .slice _ _ _), (7, .string _), (8, .string _)] ⟨rfl, rfl, rfl, rfl, rfl, rfl, trivial⟩ (fun e4 => ?_)
  refine r_seq ?_
  refine r_block ?_
  refine r_rounds (α := Nat × Nat × (List Int) × (Option Addr) × Nat) (fun ⟨i, k, ys, oa, oc⟩ e wl => Knows e [(0, vstr s), (1, vstr r), (5, ptr bt2 0), (6, .slice oa ((ys).length) oc), (7, vstr (s.drop i)), (8, vstr (r.drop k))] ∧ (i ≤ s.length) ∧ (k ≤ r.length) ∧ (fe 1048576 (s.drop i) (r.drop k) < 1000) ∧ (ys.length + ((s.length - i) + (r.length - k)) ≤ 80) ∧ (ex s r = ys ++ ex (s.drop i) (r.drop k)) ∧ (wl.ownsRow (bt2 + 1) 3 1 (.slice oa ((ys).length) oc) ((ys).length) ((ys).map vint)) ∧ (Blk wl bt2 ((T2).map vint)) ∧ (w.heap.size ≤ wl.heap.size) ∧ (Below w.heap.size w wl)) (fun ⟨i, k, ys, oa, oc⟩ => (s.length - i) + (r.length - k)) (0, 0, [], none, 0) ?_ ?_
  · skip
    exact ⟨⟨rfl, rfl, rfl, rfl, rfl, rfl, trivial⟩, (by omega), (by omega), hfe0, (by simp only [List.length_nil]; omega), rfl, (World.ownsRow_nil _ _ _ _), hT2, hsz, hB⟩
  · skip
    rintro ⟨i, k, ys, oa, oc⟩ el5 wl5 ⟨hkn, hi, hk, hfe, hyl, hex, ho, hT2, hsz, hB⟩ ih5
    obtain ⟨e5, rfl⟩ := knows_env hkn
    refine r_seq ?_
    refine r_seq ?_
    refine r_region' ?_
    refine l_q (q_move (v := .string _) rfl rfl) ?_
    refine l_q (q_neq_str rfl rfl rfl) ?_
    refine l_q (q_move (v := .bool _) rfl rfl) ?_
    refine l_part 20 rfl (fun hc6 => ?_) (fun hc6 => ?_)
    · skip
      try simp only [decide_eq_true_eq, decide_eq_false_iff_not, Bool.not_eq_true', Bool.not_eq_false', Bool.not_not, Bool.not_true, Bool.not_false, Bool.not_eq_true, Bool.not_eq_false, Int.not_lt, Int.not_le, Bool.and_eq_true, Bool.or_eq_true, Bool.and_eq_false_iff, Bool.or_eq_false_iff] at hc6
      have hne : ¬ (s.drop i = [] ∧ r.drop k = []) := fun h => hc6 h.1
      refine l_q (q_skip rfl) ?_
      refine l_q (q_skip rfl) ?_
      refine l_q (q_pick_t (v := .bool _) rfl rfl rfl) ?_
      refine l_nil ?_
      refine r_forget [(0, .string _), (1, .string _), (5, .pointer _), (6, .slice _ _ _), (7, .string _), (8, .string _), (23, .bool _)] ⟨rfl, rfl, rfl, rfl, rfl, rfl, rfl, trivial⟩ (fun e7 => ?_)
      refine r_cond_t rfl ?_
      refine r_skip ?_
      refine r_block ?_
      refine r_seq ?_
      refine r_region' ?_
      refine l_q (q_assign (v := .int _ _) rfl rfl) ?_
      refine l_nil ?_
      refine r_forget [(0, .string _), (1, .string _), (5, .pointer _), (6, .slice _ _ _), (7, .string _), (8, .string _), (9, .int _ _)] ⟨rfl, rfl, rfl, rfl, rfl, rfl, rfl, trivial⟩ (fun e8 => ?_)
      refine r_block ?_
      refine r_rounds (α := Nat) (fun kd e wl => Knows e [(0, vstr s), (1, vstr r), (5, ptr bt2 0), (6, .slice oa ((ys).length) oc), (7, vstr (s.drop i)), (8, vstr (r.drop k)), (9, vint (kd : Int))] ∧ (kd ≤ 6) ∧ (∀ j, j < kd → good (s.drop i) (r.drop k) j = false) ∧ (Blk wl bt2 ((T2).map vint)) ∧ (wl.ownsRow (bt2 + 1) 3 1 (.slice oa ((ys).length) oc) ((ys).length) ((ys).map vint)) ∧ (w.heap.size ≤ wl.heap.size) ∧ (Below w.heap.size w wl)) (fun kd => 6 - kd) 0 ?_ ?_
      · skip
        exact ⟨⟨rfl, rfl, rfl, rfl, rfl, rfl, rfl, trivial⟩, (by omega), (fun j hj => by omega), hT2, ho, hsz, hB⟩
      · skip
        rintro kd el9 wl9 ⟨hkn, hkd, hno, hT2, ho, hsz, hB⟩ ih9
        obtain ⟨e9, rfl⟩ := knows_env hkn
        refine r_seq ?_
        refine r_seq ?_
        refine r_region' ?_
        refine l_q (q_move (v := .int _ _) rfl rfl) ?_
        refine l_q (q_leq rfl rfl rfl) ?_
        refine l_nil ?_
        refine r_forget [(0, .string _), (1, .string _), (5, .pointer _), (6, .slice _ _ _), (7, .string _), (8, .string _), (9, .int _ _), (25, .bool _)] ⟨rfl, rfl, rfl, rfl, rfl, rfl, rfl, rfl, trivial⟩ (fun e10 => ?_)
        refine r_cond rfl (fun hc11 => ?_) (fun hc11 => ?_)
        · skip
          try simp only [decide_eq_true_eq, decide_eq_false_iff_not, Bool.not_eq_true', Bool.not_eq_false', Bool.not_not, Bool.not_true, Bool.not_false, Bool.not_eq_true, Bool.not_eq_false, Int.not_lt, Int.not_le, Bool.and_eq_true, Bool.or_eq_true, Bool.and_eq_false_iff, Bool.or_eq_false_iff] at hc11
          have hkd6 : kd < 6 := by omega
          refine r_skip ?_
          refine r_seq ?_
          refine r_block ?_
          refine r_seq ?_
          refine r_region' ?_
          refine l_q (q_move (v := .int _ _) rfl rfl) ?_
          refine l_q (q_move (v := .string _) rfl rfl) ?_
          refine l_q (q_move (v := .string _) rfl rfl) ?_
          refine l_o (o_call Try.call63 rfl (step_ret (kd : Int) (s.drop i) (r.drop k) _ (by rw [List.length_drop]; omega) (by rw [List.length_drop]; omega)) rfl ?_)
          rintro _ w12 ⟨rfl, hE12⟩
          replace hB := below_ext hB hE12 hsz
          replace hT2 := hT2.ext hE12
          replace ho := own_ext ho hE12
          replace hsz := Nat.le_trans hsz hE12.size
          refine l_q (q_move (v := .tuple _) rfl rfl) ?_
          refine l_q (q_extract (vs := [_, _, _]) (v := .string _) rfl rfl rfl) ?_
          refine l_q (q_extract (vs := [_, _, _]) (v := .string _) rfl rfl rfl) ?_
          refine l_q (q_extract (vs := [_, _, _]) (v := .bool _) rfl rfl rfl) ?_
          refine l_q (q_assign (v := .string _) rfl rfl) ?_
          refine l_q (q_assign (v := .string _) rfl rfl) ?_
          refine l_q (q_assign (v := .bool _) rfl rfl) ?_
          refine l_nil ?_
          refine r_forget [(0, .string _), (1, .string _), (5, .pointer _), (6, .slice _ _ _), (7, .string _), (8, .string _), (9, .int _ _), (10, .string _), (11, .string _), (12, .bool _)] ⟨rfl, rfl, rfl, rfl, rfl, rfl, rfl, rfl, rfl, rfl, trivial⟩ (fun e13 => ?_)
          refine r_seq ?_
          refine r_draw ext_refl' ext_trans' [0, 1, 2, 4, 5, 6, 7, 8, 9, 10, 11, 12, 13, 14, 15, 16, 17, 18, 20, 21, 22, 23, 24, 25, 26, 27, 28, 29, 30, 31, 32, 33, 34, 3, 19, 35, 36] [3] 6 (by kernel_rfl) (by kernel_rfl) ?_
          intro w14 _ hE14
          replace hB := below_ext hB hE14 hsz
          replace hT2 := hT2.ext hE14
          replace ho := own_ext ho hE14
          replace hsz := Nat.le_trans hsz hE14.size
          refine m_q rfl rfl (fun w' hC' => q_move (v := .bool _) rfl rfl) ?_
          refine m_q rfl rfl (fun w' hC' => q_move (v := .bool _) rfl rfl) ?_
          refine m_part 37 rfl (fun hc15 => ?_) (fun hc15 => ?_)
          · skip
            try simp only [decide_eq_true_eq, decide_eq_false_iff_not, Bool.not_eq_true', Bool.not_eq_false', Bool.not_not, Bool.not_true, Bool.not_false, Bool.not_eq_true, Bool.not_eq_false, Int.not_lt, Int.not_le, Bool.and_eq_true, Bool.or_eq_true, Bool.and_eq_false_iff, Bool.or_eq_false_iff] at hc15
            have hst := hc15
            have hdl1 : (s.drop i).length = s.length - i := List.length_drop
            have hdl2 : (r.drop k).length = r.length - k := List.length_drop
            have hq1 := tab_step hTab hi hk hst
            have hq2 := tab_at hTab hi hk
            refine m_q rfl rfl (fun w' hC' => q_move (v := .int _ _) rfl rfl) ?_
            refine m_q rfl rfl (fun w' hC' => q_move (v := .pointer _) rfl rfl) ?_
            refine m_q rfl rfl (fun w' hC' => q_move (v := .string _) rfl rfl) ?_
            refine m_q rfl rfl (fun w' hC' => q_len_str rfl Try.underlying9 rfl rfl) ?_
            refine m_q rfl rfl (fun w' hC' => q_move (v := .string _) rfl rfl) ?_
            refine m_q rfl rfl (fun w' hC' => q_len_str rfl Try.underlying9 rfl rfl) ?_
            refine m_q rfl rfl (fun w' hC' => q_sub rfl rfl (by omega) rfl) ?_
            refine m_q rfl rfl (fun w' hC' => q_move (v := .string _) rfl rfl) ?_
            refine m_q rfl rfl (fun w' hC' => q_len_str rfl Try.underlying9 rfl rfl) ?_
            refine m_q rfl rfl (fun w' hC' => q_move (v := .string _) rfl rfl) ?_
            refine m_q rfl rfl (fun w' hC' => q_len_str rfl Try.underlying9 rfl rfl) ?_
            refine m_q rfl rfl (fun w' hC' => q_sub rfl rfl (by omega) rfl) ?_
            refine m_q rfl rfl (fun w' hC' => q_nilCheck rfl rfl) ?_
            refine m_q rfl rfl (fun w' hC' => q_indexAddr_arr Try.underlying127 Try.sizeOf101 rfl rfl (by omega) rfl) ?_
            refine m_q rfl rfl (fun w' hC' => q_indexAddr_arr1 Try.underlying101 Try.sizeOf3 rfl rfl (by omega) rfl) ?_
            refine m_q rfl rfl (fun w' hC' => q_load Try.isAgg3 rfl (((hT2.has (o := 0 + (((s).length : Int) - (((stepR (kd : Int) (s.drop i) (r.drop k)).1).length : Int)).toNat * 41 + (((r).length : Int) - (((stepR (kd : Int) (s.drop i) (r.drop k)).2.1).length : Int)).toNat) (imap (by omega))).ext hC')) rfl) ?_
            refine m_q rfl rfl (fun w' hC' => q_move (v := .pointer _) rfl rfl) ?_
            refine m_q rfl rfl (fun w' hC' => q_move (v := .string _) rfl rfl) ?_
            refine m_q rfl rfl (fun w' hC' => q_len_str rfl Try.underlying9 rfl rfl) ?_
            refine m_q rfl rfl (fun w' hC' => q_move (v := .string _) rfl rfl) ?_
            refine m_q rfl rfl (fun w' hC' => q_len_str rfl Try.underlying9 rfl rfl) ?_
            refine m_q rfl rfl (fun w' hC' => q_sub rfl rfl (by omega) rfl) ?_
            refine m_q rfl rfl (fun w' hC' => q_move (v := .string _) rfl rfl) ?_
            refine m_q rfl rfl (fun w' hC' => q_len_str rfl Try.underlying9 rfl rfl) ?_
            refine m_q rfl rfl (fun w' hC' => q_move (v := .string _) rfl rfl) ?_
            refine m_q rfl rfl (fun w' hC' => q_len_str rfl Try.underlying9 rfl rfl) ?_
            refine m_q rfl rfl (fun w' hC' => q_sub rfl rfl (by omega) rfl) ?_
            refine m_q rfl rfl (fun w' hC' => q_nilCheck rfl rfl) ?_
            refine m_q rfl rfl (fun w' hC' => q_indexAddr_arr Try.underlying127 Try.sizeOf101 rfl rfl (by omega) rfl) ?_
            refine m_q rfl rfl (fun w' hC' => q_indexAddr_arr1 Try.underlying101 Try.sizeOf3 rfl rfl (by omega) rfl) ?_
            refine m_q rfl rfl (fun w' hC' => q_load Try.isAgg3 rfl (((hT2.has (o := 0 + (((s).length : Int) - ((s.drop i).length : Int)).toNat * 41 + (((r).length : Int) - ((r.drop k).length : Int)).toNat) (imap (by omega))).ext hC')) rfl) ?_
            refine m_o rfl rfl (o_call Try.call64 rfl (cost_ret _ _) rfl ?_)
            rintro _ w16 ⟨rfl, rfl⟩
            refine ⟨Ext.refl _, ?_⟩
            refine m_q rfl rfl (fun w' hC' => q_add rfl rfl (by rw [hq1.1]; have := fe_bounds (F := 1000) (by decide) (stepR (kd : Int) (s.drop i) (r.drop k)).1 (stepR (kd : Int) (s.drop i) (r.drop k)).2.1; have := cost_le (kd : Int); omega) rfl) ?_
            refine m_q rfl rfl (fun w' hC' => q_eql rfl rfl rfl) ?_
            refine m_q rfl rfl (fun w' hC' => q_pick_t (v := .bool _) rfl rfl rfl) ?_
            refine m_nil ?_
            refine r_forget [(0, .string _), (1, .string _), (5, .pointer _), (6, .slice _ _ _), (7, .string _), (8, .string _), (9, .int _ _), (10, .string _), (11, .string _), (72, .bool _)] ⟨rfl, rfl, rfl, rfl, rfl, rfl, rfl, rfl, rfl, rfl, trivial⟩ (fun e17 => ?_)
            refine r_cond rfl (fun hc18 => ?_) (fun hc18 => ?_)
            · skip
              try simp only [decide_eq_true_eq, decide_eq_false_iff_not, Bool.not_eq_true', Bool.not_eq_false', Bool.not_not, Bool.not_true, Bool.not_false, Bool.not_eq_true, Bool.not_eq_false, Int.not_lt, Int.not_le, Bool.and_eq_true, Bool.or_eq_true, Bool.and_eq_false_iff, Bool.or_eq_false_iff] at hc18
              have hgy := hc18
              rw [hq1.1, hq2] at hgy
              have hgd := (good_1000 hfe hst).trans (decide_eq_true hgy)
              have hst2 := ex_step hne hkd6 hgd hno
              have hsum := good_sum hgd
              have hcl := cost_le (kd : Int)
              obtain ⟨j2, m2, hA2, hB2, hj2, hm2, hlt2, hkm2⟩ := step_drop hst hi hk
              refine r_seq ?_
              refine r_region' ?_
              refine l_q (q_move (v := .slice _ _ _) rfl rfl) ?_
              refine l_q (q_move (v := .int _ _) rfl rfl) ?_
              have hbl_bt2 := hT2.lt
              refine l_o (o_buildSlice (el := 3) (cs := [vint (kd : Int)]) Try.underlying25 el3 (by decide) (by kernel_rfl) rfl (by decide) rfl ?_)
              intro b19 w19 hzl19 hzr19 _ hb19 hE19 ho19
              have hne_bt2_b19 : bt2 ≠ b19 := by have := hT2.lt; omega
              have hbs_b19 : w.heap.size ≤ b19 := Nat.le_trans hsz hzl19
              replace hB := below_ext hB hE19 hsz
              replace hT2 := hT2.ext hE19
              replace ho := own_ext ho hE19
              replace hsz := Nat.le_trans hsz hE19.size
              replace ho19 := own_mono ho19 (show bt2 + 1 ≤ _ by omega)
              have hbl_bt2 := hT2.lt
              refine l_o (o_append_map (f := vint) (ys) ([(kd : Int)]) Try.underlying25 el3 rfl rfl ho rfl (Row.of_owns ho19) (fun _ => rfl) (by (try simp only [List.length_append, List.length_cons, List.length_nil, List.length_take, List.length_drop, List.length_replicate]); omega) (by omega) rfl ?_)
              intro a20 c20 w20 hz20 ho20 hG20
              replace hB := below_own hB hG20 ho (by omega) hsz
              replace hsz := Nat.le_trans hsz hG20.size
              replace hT2 := hT2.step hG20 (own_ne ho (by omega))
              refine l_q (q_assign (v := .slice _ _ _) rfl rfl) ?_
              refine l_nil ?_
              refine r_forget [(0, .string _), (1, .string _), (5, .pointer _), (6, .slice _ _ _), (10, .string _), (11, .string _)] ⟨rfl, rfl, rfl, rfl, rfl, rfl, trivial⟩ (fun e21 => ?_)
              refine r_seq ?_
              refine r_region' ?_
              refine l_q (q_move (v := .string _) rfl rfl) ?_
              refine l_q (q_move (v := .string _) rfl rfl) ?_
              refine l_q (q_assign (v := .string _) rfl rfl) ?_
              refine l_q (q_assign (v := .string _) rfl rfl) ?_
              refine l_nil ?_
              refine r_forget [(0, .string _), (1, .string _), (5, .pointer _), (6, .slice _ _ _), (7, .string _), (8, .string _)] ⟨rfl, rfl, rfl, rfl, rfl, rfl, trivial⟩ (fun e22 => ?_)
              refine r_exit rfl ?_
              refine r_inBlock ?_
              exact ih5 (j2, m2, ys ++ [(kd : Int)], a20, c20) _ _ ⟨⟨rfl, rfl, rfl, rfl, (vstr_eq hA2), (vstr_eq hB2), trivial⟩, hj2, hm2, (by rw [← hA2, ← hB2]; omega), (by rw [List.length_append]; simp only [List.length_cons, List.length_nil]; omega), (by rw [hex, hst2, hA2, hB2, List.append_assoc]; rfl), ho20, hT2, hsz, hB⟩ (by first | omega | (dsimp only; omega))
            · skip
              try simp only [decide_eq_true_eq, decide_eq_false_iff_not, Bool.not_eq_true', Bool.not_eq_false', Bool.not_not, Bool.not_true, Bool.not_false, Bool.not_eq_true, Bool.not_eq_false, Int.not_lt, Int.not_le, Bool.and_eq_true, Bool.or_eq_true, Bool.and_eq_false_iff, Bool.or_eq_false_iff] at hc18
              have hgn := hc18
              rw [hq1.1, hq2] at hgn
              refine r_skip ?_
              refine r_inBlock ?_
              refine r_region' ?_
              refine l_q (q_move (v := .int _ _) rfl rfl) ?_
              refine l_q (q_add rfl rfl (by omega) rfl) ?_
              refine l_q (q_assign (v := .int _ _) rfl rfl) ?_
              refine l_nil ?_
              refine r_forget [(0, .string _), (1, .string _), (5, .pointer _), (6, .slice _ _ _), (7, .string _), (8, .string _), (9, .int _ _)] ⟨rfl, rfl, rfl, rfl, rfl, rfl, rfl, trivial⟩ (fun e23 => ?_)
              exact ih9 (kd + 1) _ _ ⟨⟨rfl, rfl, rfl, rfl, rfl, rfl, by first | rfl | exact vint_eq (by omega), trivial⟩, (by omega), (fun j hj => by rcases Nat.lt_succ_iff_lt_or_eq.1 hj with h | h; exact hno j h; subst h; first | exact good_no hst | exact (good_1000 hfe hst).trans (decide_eq_false hgn)), hT2, ho, hsz, hB⟩ (by first | omega | (dsimp only; omega))
          · skip
            try simp only [decide_eq_true_eq, decide_eq_false_iff_not, Bool.not_eq_true', Bool.not_eq_false', Bool.not_not, Bool.not_true, Bool.not_false, Bool.not_eq_true, Bool.not_eq_false, Int.not_lt, Int.not_le, Bool.and_eq_true, Bool.or_eq_true, Bool.and_eq_false_iff, Bool.or_eq_false_iff] at hc15
            have hst := hc15
            refine m_q rfl rfl (fun w' hC' => q_skip rfl) ?_
            refine m_q rfl rfl (fun w' hC' => q_skip rfl) ?_
            refine m_q rfl rfl (fun w' hC' => q_skip rfl) ?_
            refine m_q rfl rfl (fun w' hC' => q_skip rfl) ?_
            refine m_q rfl rfl (fun w' hC' => q_skip rfl) ?_
            refine m_q rfl rfl (fun w' hC' => q_skip rfl) ?_
            refine m_q rfl rfl (fun w' hC' => q_skip rfl) ?_
            refine m_q rfl rfl (fun w' hC' => q_skip rfl) ?_
            refine m_q rfl rfl (fun w' hC' => q_skip rfl) ?_
            refine m_q rfl rfl (fun w' hC' => q_skip rfl) ?_
            refine m_q rfl rfl (fun w' hC' => q_skip rfl) ?_
            refine m_q rfl rfl (fun w' hC' => q_skip rfl) ?_
            refine m_q rfl rfl (fun w' hC' => q_skip rfl) ?_
            refine m_q rfl rfl (fun w' hC' => q_skip rfl) ?_
            refine m_q rfl rfl (fun w' hC' => q_skip rfl) ?_
            refine m_q rfl rfl (fun w' hC' => q_skip rfl) ?_
            refine m_q rfl rfl (fun w' hC' => q_skip rfl) ?_
            refine m_q rfl rfl (fun w' hC' => q_skip rfl) ?_
            refine m_q rfl rfl (fun w' hC' => q_skip rfl) ?_
            refine m_q rfl rfl (fun w' hC' => q_skip rfl) ?_
            refine m_q rfl rfl (fun w' hC' => q_skip rfl) ?_
            refine m_q rfl rfl (fun w' hC' => q_skip rfl) ?_
            refine m_q rfl rfl (fun w' hC' => q_skip rfl) ?_
            refine m_q rfl rfl (fun w' hC' => q_skip rfl) ?_
            refine m_q rfl rfl (fun w' hC' => q_skip rfl) ?_
            refine m_q rfl rfl (fun w' hC' => q_skip rfl) ?_
            refine m_q rfl rfl (fun w' hC' => q_skip rfl) ?_
            refine m_q rfl rfl (fun w' hC' => q_skip rfl) ?_
            refine m_q rfl rfl (fun w' hC' => q_skip rfl) ?_
            refine m_q rfl rfl (fun w' hC' => q_skip rfl) ?_
            refine m_q rfl rfl (fun w' hC' => q_skip rfl) ?_
            refine m_o rfl rfl ((q_skip rfl).eff ⟨Ext.refl _, ?_⟩)
            refine m_q rfl rfl (fun w' hC' => q_skip rfl) ?_
            refine m_q rfl rfl (fun w' hC' => q_skip rfl) ?_
            refine m_q rfl rfl (fun w' hC' => q_pick_f (v := .bool _) rfl rfl rfl) ?_
            refine m_nil ?_
            refine r_forget [(0, .string _), (1, .string _), (5, .pointer _), (6, .slice _ _ _), (7, .string _), (8, .string _), (9, .int _ _), (10, .string _), (11, .string _), (72, .bool _)] ⟨rfl, rfl, rfl, rfl, rfl, rfl, rfl, rfl, rfl, rfl, trivial⟩ (fun e24 => ?_)
            refine r_cond_f rfl ?_
            refine r_skip ?_
            refine r_inBlock ?_
            refine r_region' ?_
            refine l_q (q_move (v := .int _ _) rfl rfl) ?_
            refine l_q (q_add rfl rfl (by omega) rfl) ?_
            refine l_q (q_assign (v := .int _ _) rfl rfl) ?_
            refine l_nil ?_
            refine r_forget [(0, .string _), (1, .string _), (5, .pointer _), (6, .slice _ _ _), (7, .string _), (8, .string _), (9, .int _ _)] ⟨rfl, rfl, rfl, rfl, rfl, rfl, rfl, trivial⟩ (fun e25 => ?_)
            exact ih9 (kd + 1) _ _ ⟨⟨rfl, rfl, rfl, rfl, rfl, rfl, by first | rfl | exact vint_eq (by omega), trivial⟩, (by omega), (fun j hj => by rcases Nat.lt_succ_iff_lt_or_eq.1 hj with h | h; exact hno j h; subst h; first | exact good_no hst | exact (good_1000 hfe hst).trans (decide_eq_false hgn)), hT2, ho, hsz, hB⟩ (by first | omega | (dsimp only; omega))
        · skip
          try simp only [decide_eq_true_eq, decide_eq_false_iff_not, Bool.not_eq_true', Bool.not_eq_false', Bool.not_not, Bool.not_true, Bool.not_false, Bool.not_eq_true, Bool.not_eq_false, Int.not_lt, Int.not_le, Bool.and_eq_true, Bool.or_eq_true, Bool.and_eq_false_iff, Bool.or_eq_false_iff] at hc11
          exact (fe_good hne (by omega) (fun j hj => hno j (by omega))).elim
    · skip
      try simp only [decide_eq_true_eq, decide_eq_false_iff_not, Bool.not_eq_true', Bool.not_eq_false', Bool.not_not, Bool.not_true, Bool.not_false, Bool.not_eq_true, Bool.not_eq_false, Int.not_lt, Int.not_le, Bool.and_eq_true, Bool.or_eq_true, Bool.and_eq_false_iff, Bool.or_eq_false_iff] at hc6
      have hsn := hc6
      refine l_q (q_move (v := .string _) rfl rfl) ?_
      refine l_q (q_neq_str rfl rfl rfl) ?_
      refine l_q (q_pick_f (v := .bool _) rfl rfl rfl) ?_
      refine l_nil ?_
      refine r_forget [(0, .string _), (1, .string _), (5, .pointer _), (6, .slice _ _ _), (7, .string _), (8, .string _), (23, .bool _)] ⟨rfl, rfl, rfl, rfl, rfl, rfl, rfl, trivial⟩ (fun e26 => ?_)
      refine r_cond rfl (fun hc27 => ?_) (fun hc27 => ?_)
      · skip
        try simp only [decide_eq_true_eq, decide_eq_false_iff_not, Bool.not_eq_true', Bool.not_eq_false', Bool.not_not, Bool.not_true, Bool.not_false, Bool.not_eq_true, Bool.not_eq_false, Int.not_lt, Int.not_le, Bool.and_eq_true, Bool.or_eq_true, Bool.and_eq_false_iff, Bool.or_eq_false_iff] at hc27
        have hne : ¬ (s.drop i = [] ∧ r.drop k = []) := fun h => hc27 h.2
        refine r_skip ?_
        refine r_block ?_
        refine r_seq ?_
        refine r_region' ?_
        refine l_q (q_assign (v := .int _ _) rfl rfl) ?_
        refine l_nil ?_
        refine r_forget [(0, .string _), (1, .string _), (5, .pointer _), (6, .slice _ _ _), (7, .string _), (8, .string _), (9, .int _ _)] ⟨rfl, rfl, rfl, rfl, rfl, rfl, rfl, trivial⟩ (fun e28 => ?_)
        refine r_block ?_
        refine r_rounds (α := Nat) (fun kd e wl => Knows e [(0, vstr s), (1, vstr r), (5, ptr bt2 0), (6, .slice oa ((ys).length) oc), (7, vstr (s.drop i)), (8, vstr (r.drop k)), (9, vint (kd : Int))] ∧ (kd ≤ 6) ∧ (∀ j, j < kd → good (s.drop i) (r.drop k) j = false) ∧ (Blk wl bt2 ((T2).map vint)) ∧ (wl.ownsRow (bt2 + 1) 3 1 (.slice oa ((ys).length) oc) ((ys).length) ((ys).map vint)) ∧ (w.heap.size ≤ wl.heap.size) ∧ (Below w.heap.size w wl)) (fun kd => 6 - kd) 0 ?_ ?_
        · skip
          exact ⟨⟨rfl, rfl, rfl, rfl, rfl, rfl, rfl, trivial⟩, (by omega), (fun j hj => by omega), hT2, ho, hsz, hB⟩
        · skip
          rintro kd el29 wl29 ⟨hkn, hkd, hno, hT2, ho, hsz, hB⟩ ih29
          obtain ⟨e29, rfl⟩ := knows_env hkn
          refine r_seq ?_
          refine r_seq ?_
          refine r_region' ?_
          refine l_q (q_move (v := .int _ _) rfl rfl) ?_
          refine l_q (q_leq rfl rfl rfl) ?_
          refine l_nil ?_
          refine r_forget [(0, .string _), (1, .string _), (5, .pointer _), (6, .slice _ _ _), (7, .string _), (8, .string _), (9, .int _ _), (25, .bool _)] ⟨rfl, rfl, rfl, rfl, rfl, rfl, rfl, rfl, trivial⟩ (fun e30 => ?_)
          refine r_cond rfl (fun hc31 => ?_) (fun hc31 => ?_)
          · skip
            try simp only [decide_eq_true_eq, decide_eq_false_iff_not, Bool.not_eq_true', Bool.not_eq_false', Bool.not_not, Bool.not_true, Bool.not_false, Bool.not_eq_true, Bool.not_eq_false, Int.not_lt, Int.not_le, Bool.and_eq_true, Bool.or_eq_true, Bool.and_eq_false_iff, Bool.or_eq_false_iff] at hc31
            have hkd6 : kd < 6 := by omega
            refine r_skip ?_
            refine r_seq ?_
            refine r_block ?_
            refine r_seq ?_
            refine r_region' ?_
            refine l_q (q_move (v := .int _ _) rfl rfl) ?_
            refine l_q (q_move (v := .string _) rfl rfl) ?_
            refine l_q (q_move (v := .string _) rfl rfl) ?_
            refine l_o (o_call Try.call63 rfl (step_ret (kd : Int) (s.drop i) (r.drop k) _ (by rw [List.length_drop]; omega) (by rw [List.length_drop]; omega)) rfl ?_)
            rintro _ w32 ⟨rfl, hE32⟩
            replace hB := below_ext hB hE32 hsz
            replace hT2 := hT2.ext hE32
            replace ho := own_ext ho hE32
            replace hsz := Nat.le_trans hsz hE32.size
            refine l_q (q_move (v := .tuple _) rfl rfl) ?_
            refine l_q (q_extract (vs := [_, _, _]) (v := .string _) rfl rfl rfl) ?_
            refine l_q (q_extract (vs := [_, _, _]) (v := .string _) rfl rfl rfl) ?_
            refine l_q (q_extract (vs := [_, _, _]) (v := .bool _) rfl rfl rfl) ?_
            refine l_q (q_assign (v := .string _) rfl rfl) ?_
            refine l_q (q_assign (v := .string _) rfl rfl) ?_
            refine l_q (q_assign (v := .bool _) rfl rfl) ?_
            refine l_nil ?_
            refine r_forget [(0, .string _), (1, .string _), (5, .pointer _), (6, .slice _ _ _), (7, .string _), (8, .string _), (9, .int _ _), (10, .string _), (11, .string _), (12, .bool _)] ⟨rfl, rfl, rfl, rfl, rfl, rfl, rfl, rfl, rfl, rfl, trivial⟩ (fun e33 => ?_)
            refine r_seq ?_
            refine r_draw ext_refl' ext_trans' [0, 1, 2, 4, 5, 6, 7, 8, 9, 10, 11, 12, 13, 14, 15, 16, 17, 18, 20, 21, 22, 23, 24, 25, 26, 27, 28, 29, 30, 31, 32, 33, 34, 3, 19, 35, 36] [3] 6 (by kernel_rfl) (by kernel_rfl) ?_
            intro w34 _ hE34
            replace hB := below_ext hB hE34 hsz
            replace hT2 := hT2.ext hE34
            replace ho := own_ext ho hE34
            replace hsz := Nat.le_trans hsz hE34.size
            refine m_q rfl rfl (fun w' hC' => q_move (v := .bool _) rfl rfl) ?_
            refine m_q rfl rfl (fun w' hC' => q_move (v := .bool _) rfl rfl) ?_
            refine m_part 37 rfl (fun hc35 => ?_) (fun hc35 => ?_)
            · skip
              try simp only [decide_eq_true_eq, decide_eq_false_iff_not, Bool.not_eq_true', Bool.not_eq_false', Bool.not_not, Bool.not_true, Bool.not_false, Bool.not_eq_true, Bool.not_eq_false, Int.not_lt, Int.not_le, Bool.and_eq_true, Bool.or_eq_true, Bool.and_eq_false_iff, Bool.or_eq_false_iff] at hc35
              have hst := hc35
              have hdl1 : (s.drop i).length = s.length - i := List.length_drop
              have hdl2 : (r.drop k).length = r.length - k := List.length_drop
              have hq1 := tab_step hTab hi hk hst
              have hq2 := tab_at hTab hi hk
              refine m_q rfl rfl (fun w' hC' => q_move (v := .int _ _) rfl rfl) ?_
              refine m_q rfl rfl (fun w' hC' => q_move (v := .pointer _) rfl rfl) ?_
              refine m_q rfl rfl (fun w' hC' => q_move (v := .string _) rfl rfl) ?_
              refine m_q rfl rfl (fun w' hC' => q_len_str rfl Try.underlying9 rfl rfl) ?_
              refine m_q rfl rfl (fun w' hC' => q_move (v := .string _) rfl rfl) ?_
              refine m_q rfl rfl (fun w' hC' => q_len_str rfl Try.underlying9 rfl rfl) ?_
              refine m_q rfl rfl (fun w' hC' => q_sub rfl rfl (by omega) rfl) ?_
              refine m_q rfl rfl (fun w' hC' => q_move (v := .string _) rfl rfl) ?_
              refine m_q rfl rfl (fun w' hC' => q_len_str rfl Try.underlying9 rfl rfl) ?_
              refine m_q rfl rfl (fun w' hC' => q_move (v := .string _) rfl rfl) ?_
              refine m_q rfl rfl (fun w' hC' => q_len_str rfl Try.underlying9 rfl rfl) ?_
              refine m_q rfl rfl (fun w' hC' => q_sub rfl rfl (by omega) rfl) ?_
              refine m_q rfl rfl (fun w' hC' => q_nilCheck rfl rfl) ?_
              refine m_q rfl rfl (fun w' hC' => q_indexAddr_arr Try.underlying127 Try.sizeOf101 rfl rfl (by omega) rfl) ?_
              refine m_q rfl rfl (fun w' hC' => q_indexAddr_arr1 Try.underlying101 Try.sizeOf3 rfl rfl (by omega) rfl) ?_
              refine m_q rfl rfl (fun w' hC' => q_load Try.isAgg3 rfl (((hT2.has (o := 0 + (((s).length : Int) - (((stepR (kd : Int) (s.drop i) (r.drop k)).1).length : Int)).toNat * 41 + (((r).length : Int) - (((stepR (kd : Int) (s.drop i) (r.drop k)).2.1).length : Int)).toNat) (imap (by omega))).ext hC')) rfl) ?_
              refine m_q rfl rfl (fun w' hC' => q_move (v := .pointer _) rfl rfl) ?_
              refine m_q rfl rfl (fun w' hC' => q_move (v := .string _) rfl rfl) ?_
              refine m_q rfl rfl (fun w' hC' => q_len_str rfl Try.underlying9 rfl rfl) ?_
              refine m_q rfl rfl (fun w' hC' => q_move (v := .string _) rfl rfl) ?_
              refine m_q rfl rfl (fun w' hC' => q_len_str rfl Try.underlying9 rfl rfl) ?_
              refine m_q rfl rfl (fun w' hC' => q_sub rfl rfl (by omega) rfl) ?_
              refine m_q rfl rfl (fun w' hC' => q_move (v := .string _) rfl rfl) ?_
              refine m_q rfl rfl (fun w' hC' => q_len_str rfl Try.underlying9 rfl rfl) ?_
              refine m_q rfl rfl (fun w' hC' => q_move (v := .string _) rfl rfl) ?_
              refine m_q rfl rfl (fun w' hC' => q_len_str rfl Try.underlying9 rfl rfl) ?_
              refine m_q rfl rfl (fun w' hC' => q_sub rfl rfl (by omega) rfl) ?_
              refine m_q rfl rfl (fun w' hC' => q_nilCheck rfl rfl) ?_
              refine m_q rfl rfl (fun w' hC' => q_indexAddr_arr Try.underlying127 Try.sizeOf101 rfl rfl (by omega) rfl) ?_
              refine m_q rfl rfl (fun w' hC' => q_indexAddr_arr1 Try.underlying101 Try.sizeOf3 rfl rfl (by omega) rfl) ?_
              refine m_q rfl rfl (fun w' hC' => q_load Try.isAgg3 rfl (((hT2.has (o := 0 + (((s).length : Int) - ((s.drop i).length : Int)).toNat * 41 + (((r).length : Int) - ((r.drop k).length : Int)).toNat) (imap (by omega))).ext hC')) rfl) ?_
              refine m_o rfl rfl (o_call Try.call64 rfl (cost_ret _ _) rfl ?_)
              rintro _ w36 ⟨rfl, rfl⟩
              refine ⟨Ext.refl _, ?_⟩
              refine m_q rfl rfl (fun w' hC' => q_add rfl rfl (by rw [hq1.1]; have := fe_bounds (F := 1000) (by decide) (stepR (kd : Int) (s.drop i) (r.drop k)).1 (stepR (kd : Int) (s.drop i) (r.drop k)).2.1; have := cost_le (kd : Int); omega) rfl) ?_
              refine m_q rfl rfl (fun w' hC' => q_eql rfl rfl rfl) ?_
              refine m_q rfl rfl (fun w' hC' => q_pick_t (v := .bool _) rfl rfl rfl) ?_
              refine m_nil ?_
              refine r_forget [(0, .string _), (1, .string _), (5, .pointer _), (6, .slice _ _ _), (7, .string _), (8, .string _), (9, .int _ _), (10, .string _), (11, .string _), (72, .bool _)] ⟨rfl, rfl, rfl, rfl, rfl, rfl, rfl, rfl, rfl, rfl, trivial⟩ (fun e37 => ?_)
              refine r_cond rfl (fun hc38 => ?_) (fun hc38 => ?_)
              · skip
                try simp only [decide_eq_true_eq, decide_eq_false_iff_not, Bool.not_eq_true', Bool.not_eq_false', Bool.not_not, Bool.not_true, Bool.not_false, Bool.not_eq_true, Bool.not_eq_false, Int.not_lt, Int.not_le, Bool.and_eq_true, Bool.or_eq_true, Bool.and_eq_false_iff, Bool.or_eq_false_iff] at hc38
                have hgy := hc38
                rw [hq1.1, hq2] at hgy
                have hgd := (good_1000 hfe hst).trans (decide_eq_true hgy)
                have hst2 := ex_step hne hkd6 hgd hno
                have hsum := good_sum hgd
                have hcl := cost_le (kd : Int)
                obtain ⟨j2, m2, hA2, hB2, hj2, hm2, hlt2, hkm2⟩ := step_drop hst hi hk
                refine r_seq ?_
                refine r_region' ?_
                refine l_q (q_move (v := .slice _ _ _) rfl rfl) ?_
                refine l_q (q_move (v := .int _ _) rfl rfl) ?_
                have hbl_bt2 := hT2.lt
                refine l_o (o_buildSlice (el := 3) (cs := [vint (kd : Int)]) Try.underlying25 el3 (by decide) (by kernel_rfl) rfl (by decide) rfl ?_)
                intro b39 w39 hzl39 hzr39 _ hb39 hE39 ho39
                have hne_bt2_b39 : bt2 ≠ b39 := by have := hT2.lt; omega
                have hbs_b39 : w.heap.size ≤ b39 := Nat.le_trans hsz hzl39
                replace hB := below_ext hB hE39 hsz
                replace hT2 := hT2.ext hE39
                replace ho := own_ext ho hE39
                replace hsz := Nat.le_trans hsz hE39.size
                replace ho39 := own_mono ho39 (show bt2 + 1 ≤ _ by omega)
                have hbl_bt2 := hT2.lt
                refine l_o (o_append_map (f := vint) (ys) ([(kd : Int)]) Try.underlying25 el3 rfl rfl ho rfl (Row.of_owns ho39) (fun _ => rfl) (by (try simp only [List.length_append, List.length_cons, List.length_nil, List.length_take, List.length_drop, List.length_replicate]); omega) (by omega) rfl ?_)
                intro a40 c40 w40 hz40 ho40 hG40
                replace hB := below_own hB hG40 ho (by omega) hsz
                replace hsz := Nat.le_trans hsz hG40.size
                replace hT2 := hT2.step hG40 (own_ne ho (by omega))
                refine l_q (q_assign (v := .slice _ _ _) rfl rfl) ?_
                refine l_nil ?_
                refine r_forget [(0, .string _), (1, .string _), (5, .pointer _), (6, .slice _ _ _), (10, .string _), (11, .string _)] ⟨rfl, rfl, rfl, rfl, rfl, rfl, trivial⟩ (fun e41 => ?_)
                refine r_seq ?_
                refine r_region' ?_
                refine l_q (q_move (v := .string _) rfl rfl) ?_
                refine l_q (q_move (v := .string _) rfl rfl) ?_
                refine l_q (q_assign (v := .string _) rfl rfl) ?_
                refine l_q (q_assign (v := .string _) rfl rfl) ?_
                refine l_nil ?_
                refine r_forget [(0, .string _), (1, .string _), (5, .pointer _), (6, .slice _ _ _), (7, .string _), (8, .string _)] ⟨rfl, rfl, rfl, rfl, rfl, rfl, trivial⟩ (fun e42 => ?_)
                refine r_exit rfl ?_
                refine r_inBlock ?_
                exact ih5 (j2, m2, ys ++ [(kd : Int)], a40, c40) _ _ ⟨⟨rfl, rfl, rfl, rfl, (vstr_eq hA2), (vstr_eq hB2), trivial⟩, hj2, hm2, (by rw [← hA2, ← hB2]; omega), (by rw [List.length_append]; simp only [List.length_cons, List.length_nil]; omega), (by rw [hex, hst2, hA2, hB2, List.append_assoc]; rfl), ho40, hT2, hsz, hB⟩ (by first | omega | (dsimp only; omega))
              · skip
                try simp only [decide_eq_true_eq, decide_eq_false_iff_not, Bool.not_eq_true', Bool.not_eq_false', Bool.not_not, Bool.not_true, Bool.not_false, Bool.not_eq_true, Bool.not_eq_false, Int.not_lt, Int.not_le, Bool.and_eq_true, Bool.or_eq_true, Bool.and_eq_false_iff, Bool.or_eq_false_iff] at hc38
                have hgn := hc38
                rw [hq1.1, hq2] at hgn
                refine r_skip ?_
                refine r_inBlock ?_
                refine r_region' ?_
                refine l_q (q_move (v := .int _ _) rfl rfl) ?_
                refine l_q (q_add rfl rfl (by omega) rfl) ?_
                refine l_q (q_assign (v := .int _ _) rfl rfl) ?_
                refine l_nil ?_
                refine r_forget [(0, .string _), (1, .string _), (5, .pointer _), (6, .slice _ _ _), (7, .string _), (8, .string _), (9, .int _ _)] ⟨rfl, rfl, rfl, rfl, rfl, rfl, rfl, trivial⟩ (fun e43 => ?_)
                exact ih29 (kd + 1) _ _ ⟨⟨rfl, rfl, rfl, rfl, rfl, rfl, by first | rfl | exact vint_eq (by omega), trivial⟩, (by omega), (fun j hj => by rcases Nat.lt_succ_iff_lt_or_eq.1 hj with h | h; exact hno j h; subst h; first | exact good_no hst | exact (good_1000 hfe hst).trans (decide_eq_false hgn)), hT2, ho, hsz, hB⟩ (by first | omega | (dsimp only; omega))
            · skip
              try simp only [decide_eq_true_eq, decide_eq_false_iff_not, Bool.not_eq_true', Bool.not_eq_false', Bool.not_not, Bool.not_true, Bool.not_false, Bool.not_eq_true, Bool.not_eq_false, Int.not_lt, Int.not_le, Bool.and_eq_true, Bool.or_eq_true, Bool.and_eq_false_iff, Bool.or_eq_false_iff] at hc35
              have hst := hc35
              refine m_q rfl rfl (fun w' hC' => q_skip rfl) ?_
              refine m_q rfl rfl (fun w' hC' => q_skip rfl) ?_
              refine m_q rfl rfl (fun w' hC' => q_skip rfl) ?_
              refine m_q rfl rfl (fun w' hC' => q_skip rfl) ?_
              refine m_q rfl rfl (fun w' hC' => q_skip rfl) ?_
              refine m_q rfl rfl (fun w' hC' => q_skip rfl) ?_
              refine m_q rfl rfl (fun w' hC' => q_skip rfl) ?_
              refine m_q rfl rfl (fun w' hC' => q_skip rfl) ?_
              refine m_q rfl rfl (fun w' hC' => q_skip rfl) ?_
              refine m_q rfl rfl (fun w' hC' => q_skip rfl) ?_
              refine m_q rfl rfl (fun w' hC' => q_skip rfl) ?_
              refine m_q rfl rfl (fun w' hC' => q_skip rfl) ?_
              refine m_q rfl rfl (fun w' hC' => q_skip rfl) ?_
              refine m_q rfl rfl (fun w' hC' => q_skip rfl) ?_
              refine m_q rfl rfl (fun w' hC' => q_skip rfl) ?_
              refine m_q rfl rfl (fun w' hC' => q_skip rfl) ?_
              refine m_q rfl rfl (fun w' hC' => q_skip rfl) ?_
              refine m_q rfl rfl (fun w' hC' => q_skip rfl) ?_
              refine m_q rfl rfl (fun w' hC' => q_skip rfl) ?_
              refine m_q rfl rfl (fun w' hC' => q_skip rfl) ?_
              refine m_q rfl rfl (fun w' hC' => q_skip rfl) ?_
              refine m_q rfl rfl (fun w' hC' => q_skip rfl) ?_
              refine m_q rfl rfl (fun w' hC' => q_skip rfl) ?_
              refine m_q rfl rfl (fun w' hC' => q_skip rfl) ?_
              refine m_q rfl rfl (fun w' hC' => q_skip rfl) ?_
              refine m_q rfl rfl (fun w' hC' => q_skip rfl) ?_
              refine m_q rfl rfl (fun w' hC' => q_skip rfl) ?_
              refine m_q rfl rfl (fun w' hC' => q_skip rfl) ?_
              refine m_q rfl rfl (fun w' hC' => q_skip rfl) ?_
              refine m_q rfl rfl (fun w' hC' => q_skip rfl) ?_
              refine m_q rfl rfl (fun w' hC' => q_skip rfl) ?_
              refine m_o rfl rfl ((q_skip rfl).eff ⟨Ext.refl _, ?_⟩)
              refine m_q rfl rfl (fun w' hC' => q_skip rfl) ?_
              refine m_q rfl rfl (fun w' hC' => q_skip rfl) ?_
              refine m_q rfl rfl (fun w' hC' => q_pick_f (v := .bool _) rfl rfl rfl) ?_
              refine m_nil ?_
              refine r_forget [(0, .string _), (1, .string _), (5, .pointer _), (6, .slice _ _ _), (7, .string _), (8, .string _), (9, .int _ _), (10, .string _), (11, .string _), (72, .bool _)] ⟨rfl, rfl, rfl, rfl, rfl, rfl, rfl, rfl, rfl, rfl, trivial⟩ (fun e44 => ?_)
              refine r_cond_f rfl ?_
              refine r_skip ?_
              refine r_inBlock ?_
              refine r_region' ?_
              refine l_q (q_move (v := .int _ _) rfl rfl) ?_
              refine l_q (q_add rfl rfl (by omega) rfl) ?_
              refine l_q (q_assign (v := .int _ _) rfl rfl) ?_
              refine l_nil ?_
              refine r_forget [(0, .string _), (1, .string _), (5, .pointer _), (6, .slice _ _ _), (7, .string _), (8, .string _), (9, .int _ _)] ⟨rfl, rfl, rfl, rfl, rfl, rfl, rfl, trivial⟩ (fun e45 => ?_)
              exact ih29 (kd + 1) _ _ ⟨⟨rfl, rfl, rfl, rfl, rfl, rfl, by first | rfl | exact vint_eq (by omega), trivial⟩, (by omega), (fun j hj => by rcases Nat.lt_succ_iff_lt_or_eq.1 hj with h | h; exact hno j h; subst h; first | exact good_no hst | exact (good_1000 hfe hst).trans (decide_eq_false hgn)), hT2, ho, hsz, hB⟩ (by first | omega | (dsimp only; omega))
          · skip
            try simp only [decide_eq_true_eq, decide_eq_false_iff_not, Bool.not_eq_true', Bool.not_eq_false', Bool.not_not, Bool.not_true, Bool.not_false, Bool.not_eq_true, Bool.not_eq_false, Int.not_lt, Int.not_le, Bool.and_eq_true, Bool.or_eq_true, Bool.and_eq_false_iff, Bool.or_eq_false_iff] at hc31
            exact (fe_good hne (by omega) (fun j hj => hno j (by omega))).elim
      · skip
        try simp only [decide_eq_true_eq, decide_eq_false_iff_not, Bool.not_eq_true', Bool.not_eq_false', Bool.not_not, Bool.not_true, Bool.not_false, Bool.not_eq_true, Bool.not_eq_false, Int.not_lt, Int.not_le, Bool.and_eq_true, Bool.or_eq_true, Bool.and_eq_false_iff, Bool.or_eq_false_iff] at hc27
        have hnil : s.drop i = [] ∧ r.drop k = [] := ⟨hsn, hc27⟩
        refine r_exit rfl ?_
        refine r_seq ?_
        refine r_region' ?_
        refine l_q (q_move (v := .slice _ _ _) rfl rfl) ?_
        refine l_q (q_assign (v := .slice _ _ _) rfl rfl) ?_
        refine l_nil ?_
        refine r_forget [(4, .slice _ _ _)] ⟨rfl, trivial⟩ (fun e46 => ?_)
        refine r_ret_ (vs := [.slice _ _ _]) rfl Try.func31 rfl (.nil _) ⟨rfl, trivial⟩ ?_
        have hy : ys = ex s r := by rw [hex, hnil.1, hnil.2, ex_end, List.append_nil]
        exact ⟨oa, oc, by rw [hy]; rfl, hy ▸ own_mono ho (by omega), Ext.of_below hB⟩
end Go.Proofs.Ytkcbgpilfegofaa
