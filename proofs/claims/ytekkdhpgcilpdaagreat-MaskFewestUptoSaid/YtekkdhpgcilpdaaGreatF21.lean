/- Contracts. -/
import Derived.Test.YtekkdhpgcilpdaaGreatE1
set_option linter.unusedVariables false
set_option linter.unusedSimpArgs false
namespace Go.Proofs.YtekkdhpgcilpdaaGreat
open Go Go.RowKit Go.Gv Go.Fl

def tab0 : List Int := List.replicate 1681 0
theorem tab0_len : tab0.length = 1681 := List.length_replicate
set_option maxRecDepth 1000000 in
theorem tab0_build (w : World) : (Instr.build 193 ⟨[]⟩).run Tryz.prog w = .ok (.agg ⟨tab0.map vint⟩) w := by kernel_rfl
theorem fe_min (s r : Sg) : fe 1000 s r = min (fe 1048576 s r) 1000 := by
  have key : ∀ (f g : Sg → Sg → Int) (s r : Sg), (∀ k, (stepR k s r).2.2 = true → g (stepR k s r).1 (stepR k s r).2.1 = min (f (stepR k s r).1 (stepR k s r).2.1) 1000) → ∀ (l : List Int) (m m' : Int), m' = min m 1000 → l.foldl (stepMin g s r) m' = min (l.foldl (stepMin f s r) m) 1000 := by
    intro f g s r h l
    induction l with
    | nil => intro m m' hm; exact hm
    | cons k l ih =>
      intro m m' hm
      rw [List.foldl_cons, List.foldl_cons]
      refine ih _ _ ?_
      unfold stepMin
      split
      · rename_i hk
        rw [h k hk]
        have := cost_le k
        omega
      · exact hm
  have h0 : ∀ s r : Sg, start0 1000 s r = min (start0 1048576 s r) 1000 := fun s r => by unfold start0; split <;> decide
  have hN : ∀ (n : Nat) (s r : Sg), feN 1000 n s r = min (feN 1048576 n s r) 1000 := by
    intro n
    induction n with
    | zero => exact h0
    | succ n ih => intro s r; exact key (feN 1048576 n) (feN 1000 n) s r (fun k _ => ih _ _) kinds6 _ _ (h0 s r)
  exact hN _ s r
/-- the cells of the table that are done: behind the row a, and of that row from b on -/
def Done (s r : Sg) (T : List Int) (a b : Nat) : Prop := ∀ i k, i ≤ s.length → k ≤ r.length → (a < i ∨ (i = a ∧ b ≤ k)) → T.getD (0 + i * 41 + k) 0 = fe 1000 (s.drop i) (r.drop k)
theorem Done.none {s r : Sg} {T : List Int} : Done s r T s.length (r.length + 1) := fun i k hi hk h => by omega
theorem Done.row {s r : Sg} {T : List Int} {i b : Nat} (h : Done s r T (i + 1) 0) (hb : b = r.length + 1) : Done s r T i b := fun i' k hi hk h' => h i' k hi hk (by omega)
theorem Done.start {s r : Sg} {T : List Int} {b : Nat} (h : Done s r T (s.length + 1) 0) (hb : b = r.length + 1) : Done s r T s.length b := h.row hb
theorem Done.top {s r : Sg} {T : List Int} : Done s r T (s.length + 1) 0 := fun i k hi hk h => by omega
theorem Done.put {s r : Sg} {T : List Int} {i k : Nat} {x : Int} (h : Done s r T i (k + 1)) (hT : T.length = 1681) (hi : i ≤ s.length) (hk : k ≤ r.length) (hs : s.length ≤ 40) (hr : r.length ≤ 40) (hx : x = fe 1000 (s.drop i) (r.drop k)) : Done s r (T.set (0 + i * 41 + k) x) i k := by
  intro i' k' hi' hk' h'
  by_cases he : i' = i ∧ k' = k
  · obtain ⟨rfl, rfl⟩ := he
    rw [getD_set_eq (by omega)]; exact hx
  · rw [Gv.getD_set_ne (by omega)]
    exact h i' k' hi' hk' (by omega)
theorem step_drop {k : Int} {s r : Sg} {i l : Nat} (h : (stepR k (s.drop i) (r.drop l)).2.2 = true) (hi : i ≤ s.length) (hl : l ≤ r.length) : ∃ j m, (stepR k (s.drop i) (r.drop l)).1 = s.drop j ∧ (stepR k (s.drop i) (r.drop l)).2.1 = r.drop m ∧ j ≤ s.length ∧ m ≤ r.length ∧ (i < j ∨ (j = i ∧ l + 1 ≤ m)) ∧ l ≤ m := by
  have h0 : stepR k (s.drop i) (r.drop l) = ((stepR k (s.drop i) (r.drop l)).1, (stepR k (s.drop i) (r.drop l)).2.1, true) := by rw [← h]
  obtain ⟨t, wr, hp, h1, h2⟩ := step_pc h0
  have hd := stepR_dec h
  have e1 := congrArg List.length h1
  have e2 := congrArg List.length h2
  rw [List.length_append, List.length_drop] at e1 e2
  rw [List.length_drop, List.length_drop] at hd
  refine ⟨i + t.length, l + wr.length, ?_, ?_, by omega, by omega, by omega, by omega⟩
  · rw [← List.drop_drop]; conv => rhs; rw [h1, List.drop_left]
  · rw [← List.drop_drop]; conv => rhs; rw [h2, List.drop_left]
theorem Done.get {s r : Sg} {T : List Int} {i k : Nat} {kd x : Int} (h : Done s r T i (k + 1)) (hT : T.length = 1681) (hi : i ≤ s.length) (hk : k ≤ r.length) (hs : s.length ≤ 40) (hr : r.length ≤ 40) (hst : (stepR kd (s.drop i) (r.drop k)).2.2 = true) :
    (T.set (0 + i * 41 + k) x).getD (0 + ((s.length : Int) - ((stepR kd (s.drop i) (r.drop k)).1.length : Int)).toNat * 41 + ((r.length : Int) - ((stepR kd (s.drop i) (r.drop k)).2.1.length : Int)).toNat) 0 = fe 1000 (stepR kd (s.drop i) (r.drop k)).1 (stepR kd (s.drop i) (r.drop k)).2.1 ∧ (stepR kd (s.drop i) (r.drop k)).1.length ≤ s.length ∧ (stepR kd (s.drop i) (r.drop k)).2.1.length ≤ r.length := by
  obtain ⟨j, l, hA, hB, hj, hl, hlt, _⟩ := step_drop hst hi hk
  have h1 : ((s.length : Int) - ((stepR kd (s.drop i) (r.drop k)).1.length : Int)).toNat = j := by rw [hA, List.length_drop]; omega
  have h2 : ((r.length : Int) - ((stepR kd (s.drop i) (r.drop k)).2.1.length : Int)).toNat = l := by rw [hB, List.length_drop]; omega
  rw [h1, h2, Gv.getD_set_ne (by omega), h j l hj hl hlt, hA, hB, List.length_drop, List.length_drop]
  exact ⟨rfl, by omega, by omega⟩
theorem feA_no {F : Int} {k : Nat} {s r : Sg} (hk : k < 6) (h : (stepR (k : Int) s r).2.2 = false) : feA F (k + 1) s r = feA F k s r := by
  rw [feA_succ hk, stepMin, if_neg (by rw [h]; simp)]
theorem tab_yes {T : List Int} {P Q kd : Nat} {S R : Sg} (hk : kd < 6) (hP : P < T.length) (hst : (stepR (kd : Int) S R).2.2 = true) (hq : (T.set P (feA 1000 kd S R)).getD Q 0 = fe 1000 (stepR (kd : Int) S R).1 (stepR (kd : Int) S R).2.1) :
    (T.set P (feA 1000 kd S R)).set P (min ((T.set P (feA 1000 kd S R)).getD P 0) (cost (kd : Int) + (T.set P (feA 1000 kd S R)).getD Q 0)) = T.set P (feA 1000 (kd + 1) S R) := by
  rw [List.set_set, getD_set_eq hP, hq, feA_succ hk, stepMin, if_pos hst]
theorem tab_st {T : List Int} {i k : Nat} {s r : Sg} {P : Nat} (hi : i = s.length) (hk : k = r.length) : (T.set P 1000).set P 0 = T.set P (start0 1000 (s.drop i) (r.drop k)) := by
  rw [List.set_set, start0, if_pos ⟨by rw [hi, List.drop_length], by rw [hk, List.drop_length]⟩]
theorem tab_st0 {T : List Int} {i k : Nat} {s r : Sg} {P : Nat} (hi : i ≤ s.length) (hk : k ≤ r.length) (h : ¬ (i = s.length ∧ k = r.length)) : T.set P 1000 = T.set P (start0 1000 (s.drop i) (r.drop k)) := by
  rw [start0, if_neg (fun h' => h ?_)]
  obtain ⟨h1, h2⟩ := h'
  have e1 := congrArg List.length h1
  have e2 := congrArg List.length h2
  rw [List.length_drop, List.length_nil] at e1 e2
  omega
def TabOf (s r : Sg) (T : List Int) : Prop := ∀ i k, i ≤ s.length → k ≤ r.length → T.getD (0 + i * 41 + k) 0 = fe 1000 (s.drop i) (r.drop k)
theorem Done.tab {s r : Sg} {T : List Int} (h : Done s r T 0 0) : TabOf s r T := fun i k hi hk => h i k hi hk (by omega)
theorem ends_ret (s r : Sg) (w : World) (hs : s.length ≤ 40) (hr : r.length ≤ 40) : Ret Tryz.prog 133 [vstr s, vstr r] w (fun v w' => ∃ bt T, v = ptr bt 0 ∧ Blk w' bt (T.map vint) ∧ w.heap.size ≤ bt ∧ T.length = 1681 ∧ TabOf s r T ∧ Ext w w') := by
 have hB := Below.refl w.heap.size w
 have hsz : w.heap.size ≤ w.heap.size := Nat.le_refl _
 refine ret_of_runs (args := [_, _]) Tryz.func133 rfl (Nat.le_of_ble_eq_true rfl) (by kernel_rfl) (r_seq (r_region' (l_q (q_assign (v := .pointer none) rfl rfl) (l_nil (r_seq (r_region' (l_q (q_build (v := .agg ⟨(tab0).map vint⟩) tab0_build rfl) (l_o (o_box rfl rfl rfl ?_)))))))))
 intro b1 w1 hzl1 hzr1 _ hb1 hE1
 have hbs_b1 : w.heap.size ≤ b1 := Nat.le_trans hsz hzl1
 replace hB := below_ext hB hE1 hsz
 replace hsz := Nat.le_trans hsz hE1.size
 refine l_q (q_assign (v := .pointer _) rfl rfl) (l_nil (r_seq (r_seq ?_)))
 have hT := hb1
 have hTl := tab0_len
 refine r_region' (l_q (q_move (v := .string _) rfl rfl) (l_q (q_len_str rfl Tryz.underlying9 rfl rfl) (l_q (qai rfl rfl) (l_nil (r_block (r_rounds (α := Nat × (List Int)) (fun ⟨a, T⟩ e wl => Knows e [(0, vstr s), (1, vstr r), (5, ptr b1 0), (6, vint ((a : Int) - 1))] ∧ (a ≤ s.length + 1) ∧ (T.length = 1681) ∧ (Done s r T a 0) ∧ (Blk wl b1 ((T).map vint)) ∧ (w.heap.size ≤ wl.heap.size) ∧ (Below w.heap.size w wl)) (fun ⟨a, T⟩ => a) (s.length + 1, tab0) ?_ ?_))))))
 ·
  exact ⟨⟨rfl, rfl, rfl, (vint_eq (by omega)), trivial⟩, (by omega), hTl, Done.top, hT, hsz, hB⟩
 ·
  rintro ⟨a, T⟩ el2 wl2 ⟨hkn, ha, hTl, hD, hT, hsz, hB⟩ ih2
  obtain ⟨e2, rfl⟩ := knows_env hkn
  refine r_seq (r_seq (r_region' (l_q (qmi rfl rfl) (l_q (q_geq rfl rfl rfl) (l_nil (r_cond rfl (fun hc3 => ?_) (fun hc3 => ?_)))))))
  ·
   replace hc3 := dt hc3
   refine r_skip (r_seq (r_block (r_seq ?_)))
   obtain ⟨i, hi⟩ : ∃ i : Nat, (a : Int) - 1 = i := ⟨a - 1, by omega⟩
   obtain rfl : a = i + 1 := by omega
   have his : i ≤ s.length := by omega
   refine r_forget [(0, .string _), (1, .string _), (5, .pointer _), (6, vint (i : Int)), (16, .int _ _), (17, .bool _)] ⟨rfl, rfl, rfl, vint_eq hi, rfl, rfl, trivial⟩ (fun e4 => (r_region' (l_q (q_move (v := .string _) rfl rfl) (l_q (q_len_str rfl Tryz.underlying9 rfl rfl) (l_q (qai rfl rfl) (l_nil (r_block (r_rounds (α := Nat × (List Int)) (fun ⟨b, T2⟩ e wl => Knows e [(0, vstr s), (1, vstr r), (5, ptr b1 0), (6, vint (i : Int)), (7, vint ((b : Int) - 1))] ∧ (b ≤ r.length + 1) ∧ (T2.length = 1681) ∧ (Done s r T2 i b) ∧ (Blk wl b1 ((T2).map vint)) ∧ (w.heap.size ≤ wl.heap.size) ∧ (Below w.heap.size w wl)) (fun ⟨b, T2⟩ => b) (r.length + 1, T) ?_ ?_))))))))
   ·
    exact ⟨⟨rfl, rfl, rfl, rfl, (vint_eq (by omega)), trivial⟩, (by omega), hTl, (hD.row rfl), hT, hsz, hB⟩
   ·
    rintro ⟨b, T2⟩ el5 wl5 ⟨hkn, hb, hTl2, hD2, hT, hsz, hB⟩ ih5
    obtain ⟨e5, rfl⟩ := knows_env hkn
    refine r_seq (r_seq (r_region' (l_q (qmi rfl rfl) (l_q (q_geq rfl rfl rfl) (l_nil (r_cond rfl (fun hc6 => ?_) (fun hc6 => ?_)))))))
    ·
     replace hc6 := dt hc6
     refine r_skip (r_seq (r_block (r_seq ?_)))
     obtain ⟨k, hk⟩ : ∃ k : Nat, (b : Int) - 1 = k := ⟨b - 1, by omega⟩
     obtain rfl : b = k + 1 := by omega
     have hkr : k ≤ r.length := by omega
     refine r_forget [(0, .string _), (1, .string _), (5, .pointer _), (6, .int _ _), (7, vint (k : Int)), (22, .int _ _), (23, .bool _)] ⟨rfl, rfl, rfl, rfl, vint_eq hk, rfl, rfl, trivial⟩ (fun e7 => (r_region' (l_q (q_move (v := .pointer _) rfl rfl) (l_q (qmi rfl rfl) (l_q (qmi rfl rfl) (l_q (q_nilCheck rfl rfl) (l_q (q_indexAddr_arr Tryz.underlying193 Tryz.sizeOf168 rfl rfl (by omega) rfl) (l_q (q_indexAddr_arr1 Tryz.underlying168 Tryz.sizeOf3 rfl rfl (by omega) rfl) (l_o (o_store1 (v := vint 1000) (o := 0 + i * 41 + k) Tryz.sizeOf3 rfl rfl rfl rfl hT (by rw [List.length_map]; (try simp only [List.length_set]); omega) rfl ?_))))))))))
     intro w8 hz8 hT hG8
     rw [imap_set] at hT
     replace hB := below_upd hB hG8 hsz (by omega)
     replace hsz : w.heap.size ≤ w8.heap.size := by rw [hz8]; exact hsz
     refine l_nil (r_seq (r_ifj (α := Unit) (fun _ e wl => Knows e [(0, vstr s), (1, vstr r), (5, ptr b1 0), (6, vint (i : Int)), (7, vint (k : Int))] ∧ (Blk wl b1 (((T2).set (0 + i * 41 + k) (start0 1000 (s.drop i) (r.drop k))).map vint)) ∧ (w.heap.size ≤ wl.heap.size) ∧ (Below w.heap.size w wl)) ?_ ?_))
     ·
      rintro _ el9 wl9 ⟨hkn, hT, hsz, hB⟩
      obtain ⟨e9, rfl⟩ := knows_env hkn
      refine r_seq (r_region' (l_q (qai rfl rfl) (l_nil (r_block (r_rounds (α := Nat) (fun kd e wl => Knows e [(0, vstr s), (1, vstr r), (5, ptr b1 0), (6, vint (i : Int)), (7, vint (k : Int)), (8, vint (kd : Int))] ∧ (kd ≤ 6) ∧ (Blk wl b1 (((T2).set (0 + i * 41 + k) (feA 1000 kd (s.drop i) (r.drop k))).map vint)) ∧ (w.heap.size ≤ wl.heap.size) ∧ (Below w.heap.size w wl)) (fun kd => 6 - kd) 0 ?_ ?_)))))
      ·
       exact ⟨⟨rfl, rfl, rfl, rfl, rfl, rfl, trivial⟩, (by omega), hT, hsz, hB⟩
      ·
       rintro kd el10 wl10 ⟨hkn, hkd, hT, hsz, hB⟩ ih10
       obtain ⟨e10, rfl⟩ := knows_env hkn
       refine r_seq (r_seq (r_region' (l_q (qmi rfl rfl) (l_q (q_leq rfl rfl rfl) (l_nil (r_cond rfl (fun hc11 => ?_) (fun hc11 => ?_)))))))
       ·
        replace hc11 := dt hc11
        have hkd6 : kd < 6 := by omega
        refine r_skip (r_seq (r_block (r_seq (r_draw ext_refl' ext_trans' [0, 1, 2, 3, 4, 5, 6, 7, 8, 9, 10, 11, 12, 13, 14] [7] 6 (by kernel_rfl) (by kernel_rfl) ?_))))
        intro w12 _ hE12
        replace hB := below_ext hB hE12 hsz
        replace hT := hT.ext hE12
        replace hsz := Nat.le_trans hsz hE12.size
        refine m_q rfl rfl (fun w' hC' => qmi rfl rfl) (m_q rfl rfl (fun w' hC' => q_move (v := .string _) rfl rfl) (m_q rfl rfl (fun w' hC' => qmi rfl rfl) (m_q rfl rfl (fun w' hC' => q_slice_str_lo Tryz.underlying9 rfl rfl (by omega) rfl) (m_q rfl rfl (fun w' hC' => q_move (v := .string _) rfl rfl) (m_q rfl rfl (fun w' hC' => qmi rfl rfl) (m_q rfl rfl (fun w' hC' => q_slice_str_lo Tryz.underlying9 rfl rfl (by omega) rfl) (m_o rfl rfl (o_call Tryz.call111 rfl (step_ret (kd : Int) (s.drop i) (r.drop k) _ (by rw [List.length_drop]; omega) (by rw [List.length_drop]; omega)) rfl ?_))))))))
        rintro _ w13 ⟨rfl, hE13⟩
        refine ⟨hE13, ?_⟩
        replace hB := below_ext hB hE13 hsz
        replace hT := hT.ext hE13
        replace hsz := Nat.le_trans hsz hE13.size
        refine m_q rfl rfl (fun w' hC' => q_move (v := .tuple _) rfl rfl) (m_q rfl rfl (fun w' hC' => q_extract (vs := [_, _, _]) (v := .string _) rfl rfl rfl) (m_q rfl rfl (fun w' hC' => q_extract (vs := [_, _, _]) (v := .string _) rfl rfl rfl) (m_q rfl rfl (fun w' hC' => q_extract (vs := [_, _, _]) (v := .bool _) rfl rfl rfl) (m_q rfl rfl (fun w' hC' => q_assign (v := .string _) rfl rfl) (m_q rfl rfl (fun w' hC' => q_assign (v := .string _) rfl rfl) (m_q rfl rfl (fun w' hC' => qab rfl rfl) (m_nil (r_forget [(0, .string _), (1, .string _), (5, .pointer _), (6, .int _ _), (7, .int _ _), (8, .int _ _), (9, .string _), (10, .string _), (11, .bool _)] ⟨rfl, rfl, rfl, rfl, rfl, rfl, rfl, rfl, rfl, trivial⟩ (fun e14 => (r_seq (r_region' (l_q (qmb rfl rfl) (l_nil (r_cond rfl (fun hc15 => ?_) (fun hc15 => ?_)))))))))))))))
        ·
         have hst := hc15
         have hq := Done.get (x := feA 1000 kd (s.drop i) (r.drop k)) hD2 hTl2 his hkr hs hr hst
         refine r_draw ext_refl' ext_trans' [0, 1, 2, 3, 4, 5, 6, 7, 8, 9, 10, 12, 13, 14, 15, 16, 17, 18, 19, 20, 21, 22, 23, 24, 25, 26, 29, 30, 11, 27, 28, 31, 32] [11, 32, 1032] 4 (by kernel_rfl) (by kernel_rfl) ?_
         intro w16 _ hE16
         replace hB := below_ext hB hE16 hsz
         replace hT := hT.ext hE16
         replace hsz := Nat.le_trans hsz hE16.size
         refine m_q rfl rfl (fun w' hC' => q_move (v := .pointer _) rfl rfl) (m_q rfl rfl (fun w' hC' => qmi rfl rfl) (m_q rfl rfl (fun w' hC' => qmi rfl rfl) (m_q rfl rfl (fun w' hC' => q_move (v := .pointer _) rfl rfl) (m_q rfl rfl (fun w' hC' => qmi rfl rfl) (m_q rfl rfl (fun w' hC' => qmi rfl rfl) (m_q rfl rfl (fun w' hC' => q_nilCheck rfl rfl) (m_q rfl rfl (fun w' hC' => q_indexAddr_arr Tryz.underlying193 Tryz.sizeOf168 rfl rfl (by omega) rfl) (m_q rfl rfl (fun w' hC' => q_indexAddr_arr1 Tryz.underlying168 Tryz.sizeOf3 rfl rfl (by omega) rfl) (m_q rfl rfl (fun w' hC' => q_load Tryz.isAgg3 rfl (((hT.has (o := 0 + i * 41 + k) (imap (by (try simp only [List.length_set]); omega))).ext hC')) rfl) (m_q rfl rfl (fun w' hC' => qmi rfl rfl) (m_q rfl rfl (fun w' hC' => q_move (v := .pointer _) rfl rfl) (m_q rfl rfl (fun w' hC' => q_move (v := .string _) rfl rfl) ?_))))))))))))
         refine m_q rfl rfl (fun w' hC' => q_len_str rfl Tryz.underlying9 rfl rfl) (m_q rfl rfl (fun w' hC' => q_move (v := .string _) rfl rfl) (m_q rfl rfl (fun w' hC' => q_len_str rfl Tryz.underlying9 rfl rfl) (m_q rfl rfl (fun w' hC' => q_sub rfl rfl (by omega) rfl) (m_q rfl rfl (fun w' hC' => q_move (v := .string _) rfl rfl) (m_q rfl rfl (fun w' hC' => q_len_str rfl Tryz.underlying9 rfl rfl) (m_q rfl rfl (fun w' hC' => q_move (v := .string _) rfl rfl) (m_q rfl rfl (fun w' hC' => q_len_str rfl Tryz.underlying9 rfl rfl) (m_q rfl rfl (fun w' hC' => q_sub rfl rfl (by omega) rfl) (m_q rfl rfl (fun w' hC' => q_nilCheck rfl rfl) (m_q rfl rfl (fun w' hC' => q_indexAddr_arr Tryz.underlying193 Tryz.sizeOf168 rfl rfl (by omega) rfl) (m_q rfl rfl (fun w' hC' => q_indexAddr_arr1 Tryz.underlying168 Tryz.sizeOf3 rfl rfl (by omega) rfl) ?_)))))))))))
         refine m_q rfl rfl (fun w' hC' => q_load Tryz.isAgg3 rfl (((hT.has (o := 0 + (((s).length : Int) - (((stepR (kd : Int) (s.drop i) (r.drop k)).1).length : Int)).toNat * 41 + (((r).length : Int) - (((stepR (kd : Int) (s.drop i) (r.drop k)).2.1).length : Int)).toNat) (imap (by (try simp only [List.length_set]); omega))).ext hC')) rfl) (m_q rfl rfl (fun w' hC' => q_nilCheck rfl rfl) (m_q rfl rfl (fun w' hC' => q_indexAddr_arr Tryz.underlying193 Tryz.sizeOf168 rfl rfl (by omega) rfl) (m_o rfl rfl (o_call Tryz.call112 rfl (cost_ret _ _) rfl ?_))))
         rintro _ w17 ⟨rfl, rfl⟩
         refine ⟨Ext.refl _, ?_⟩
         refine m_q rfl rfl (fun w' hC' => q_add rfl rfl (by rw [hq.1]; have := fe_bounds (F := 1000) (by decide) (stepR (kd : Int) (s.drop i) (r.drop k)).1 (stepR (kd : Int) (s.drop i) (r.drop k)).2.1; have := cost_le (kd : Int); omega) rfl) (m_q rfl rfl (fun w' hC' => q_min rfl rfl rfl) (m_q rfl rfl (fun w' hC' => q_indexAddr_arr1 Tryz.underlying168 Tryz.sizeOf3 rfl rfl (by omega) rfl) ?_))
         refine m_last rfl rfl rfl (o_store1 (v := vint (min (((T2).set (0 + i * 41 + k) (feA 1000 kd (s.drop i) (r.drop k))).getD (0 + i * 41 + k) 0) ((cost (kd : Int)) + (((T2).set (0 + i * 41 + k) (feA 1000 kd (s.drop i) (r.drop k))).getD (0 + (((s).length : Int) - (((stepR (kd : Int) (s.drop i) (r.drop k)).1).length : Int)).toNat * 41 + (((r).length : Int) - (((stepR (kd : Int) (s.drop i) (r.drop k)).2.1).length : Int)).toNat) 0)))) (o := 0 + i * 41 + k) Tryz.sizeOf3 rfl rfl rfl rfl hT (by rw [List.length_map]; (try simp only [List.length_set]); omega) rfl ?_)
         intro w18 hz18 hT hG18
         rw [imap_set] at hT
         replace hB := below_upd hB hG18 hsz (by omega)
         replace hsz : w.heap.size ≤ w18.heap.size := by rw [hz18]; exact hsz
         refine m_nil (r_forget [(0, .string _), (1, .string _), (5, .pointer _), (6, .int _ _), (7, .int _ _), (8, .int _ _)] ⟨rfl, rfl, rfl, rfl, rfl, rfl, trivial⟩ (fun e19 => (r_inBlock (r_region' (l_q (qmi rfl rfl) (l_q (q_add rfl rfl (by omega) rfl) (l_q (qai rfl rfl) (l_nil ?_))))))))
         exact ih10 (kd + 1) _ _ ⟨⟨rfl, rfl, rfl, rfl, rfl, by first | rfl | exact vint_eq (by omega), trivial⟩, (by omega), (blk_eq (tab_yes hkd6 (by omega) hst hq.1) hT), hsz, hB⟩ (by first | omega | (dsimp only; omega))
        ·
         have hst := hc15
         refine r_skip (r_inBlock (r_region' (l_q (qmi rfl rfl) (l_q (q_add rfl rfl (by omega) rfl) (l_q (qai rfl rfl) (l_nil ?_))))))
         exact ih10 (kd + 1) _ _ ⟨⟨rfl, rfl, rfl, rfl, rfl, by first | rfl | exact vint_eq (by omega), trivial⟩, (by omega), (blk_eq (by rw [feA_no hkd6 hst]) hT), hsz, hB⟩ (by first | omega | (dsimp only; omega))
       ·
        replace hc11 := dle hc11
        refine r_exit rfl (r_inBlock ?_)
        obtain rfl : kd = 6 := by omega
        refine r_region' (l_q (qmi rfl rfl) (l_q (q_sub rfl rfl (by omega) rfl) (l_q (qai rfl rfl) (l_nil ?_))))
        exact ih5 (k, (T2).set (0 + i * 41 + k) (feA 1000 6 (s.drop i) (r.drop k))) _ _ ⟨⟨rfl, rfl, rfl, rfl, rfl, trivial⟩, (by omega), (by rw [List.length_set]; exact hTl2), (hD2.put hTl2 (by omega) (by omega) hs hr (fe_six _ _)), hT, hsz, hB⟩ (by first | omega | (dsimp only; omega))
     · intro hj9
       refine r_seq (r_region' (l_q (qmi rfl rfl) (l_q (q_move (v := .string _) rfl rfl) (l_q (q_len_str rfl Tryz.underlying9 rfl rfl) (l_q (q_eql rfl rfl rfl) (l_q (qmb rfl rfl) (l_part 36 rfl (fun hc20 => ?_) (fun hc20 => ?_))))))))
       ·
        replace hc20 := dt hc20
        refine l_q (qmi rfl rfl) (l_q (q_move (v := .string _) rfl rfl) (l_q (q_len_str rfl Tryz.underlying9 rfl rfl) (l_q (q_eql rfl rfl rfl) (l_q (q_pick_t (v := .bool _) rfl rfl rfl) (l_nil (r_forget [(0, .string _), (1, .string _), (5, .pointer _), (6, .int _ _), (7, .int _ _), (41, .bool _)] ⟨rfl, rfl, rfl, rfl, rfl, rfl, trivial⟩ (fun e21 => (r_cond rfl (fun hc22 => ?_) (fun hc22 => ?_)))))))))
        ·
         replace hc22 := dt hc22
         refine r_region' (l_q (q_move (v := .pointer _) rfl rfl) (l_q (qmi rfl rfl) (l_q (qmi rfl rfl) (l_q (q_nilCheck rfl rfl) (l_q (q_indexAddr_arr Tryz.underlying193 Tryz.sizeOf168 rfl rfl (by omega) rfl) (l_q (q_indexAddr_arr1 Tryz.underlying168 Tryz.sizeOf3 rfl rfl (by omega) rfl) (l_o (o_store1 (v := vint 0) (o := 0 + i * 41 + k) Tryz.sizeOf3 rfl rfl rfl rfl hT (by rw [List.length_map]; (try simp only [List.length_set]); omega) rfl ?_))))))))
         intro w23 hz23 hT hG23
         rw [imap_set] at hT
         replace hB := below_upd hB hG23 hsz (by omega)
         replace hsz : w.heap.size ≤ w23.heap.size := by rw [hz23]; exact hsz
         refine l_nil ?_
         exact hj9 () _ _ ⟨⟨rfl, rfl, rfl, rfl, rfl, trivial⟩, (blk_eq (tab_st (by omega) (by omega)) hT), hsz, hB⟩
        ·
         replace hc22 := df hc22
         refine r_skip ?_
         exact hj9 () _ _ ⟨⟨rfl, rfl, rfl, rfl, rfl, trivial⟩, (blk_eq (tab_st0 (by omega) (by omega) (by omega)) hT), hsz, hB⟩
       ·
        replace hc20 := df hc20
        refine l_q (q_skip rfl) (l_q (q_skip rfl) (l_q (q_skip rfl) (l_q (q_skip rfl) (l_q (q_pick_f (v := .bool _) rfl rfl rfl) (l_nil (r_forget [(0, .string _), (1, .string _), (5, .pointer _), (6, .int _ _), (7, .int _ _), (41, .bool _)] ⟨rfl, rfl, rfl, rfl, rfl, rfl, trivial⟩ (fun e24 => (r_cond_f rfl (r_skip ?_)))))))))
        exact hj9 () _ _ ⟨⟨rfl, rfl, rfl, rfl, rfl, trivial⟩, (blk_eq (tab_st0 (by omega) (by omega) (by omega)) hT), hsz, hB⟩
    ·
     replace hc6 := dle hc6
     refine r_exit rfl (r_inBlock ?_)
     obtain rfl : b = 0 := by omega
     refine r_region' (l_q (qmi rfl rfl) (l_q (q_sub rfl rfl (by omega) rfl) (l_q (qai rfl rfl) (l_nil ?_))))
     exact ih2 (i, T2) _ _ ⟨⟨rfl, rfl, rfl, rfl, trivial⟩, (by omega), hTl2, hD2, hT, hsz, hB⟩ (by first | omega | (dsimp only; omega))
  ·
   replace hc3 := dle hc3
   refine r_exit rfl (r_seq ?_)
   obtain rfl : a = 0 := by omega
   refine r_region' (l_q (q_move (v := .pointer _) rfl rfl) (l_q (q_assign (v := .pointer _) rfl rfl) (l_nil (r_ret_ (vs := [.pointer _]) rfl Tryz.func133 rfl (.nil _) ⟨rfl, trivial⟩ ?_))))
   exact ⟨b1, T, rfl, hT, hbs_b1, hTl, hD.tab, Ext.of_below hB⟩
theorem rerrors_ret (s r : Sg) (w : World) (hs : s.length ≤ 40) (hr : r.length ≤ 40) : Ret Tryz.prog 105 [vstr s, vstr r] w (fun v w' => v = .tuple ⟨[vint (fe 1000 s r), .bool (decide (fe 1000 s r < 1000))]⟩ ∧ Ext w w') := by
 have hB := Below.refl w.heap.size w
 have hsz : w.heap.size ≤ w.heap.size := Nat.le_refl _
 refine ret_of_runs (args := [_, _]) Tryz.func105 rfl (Nat.le_of_ble_eq_true rfl) (by kernel_rfl) (r_seq (r_region' (l_q (qai rfl rfl) (l_q (qab rfl rfl) (l_nil (r_seq (r_region' (l_q (q_move (v := .string _) rfl rfl) (l_q (q_move (v := .string _) rfl rfl) (l_o (o_call Tryz.call133 rfl (ends_ret s r _ (by omega) (by omega)) rfl ?_)))))))))))
 have hszp1 : w.heap.size ≤ w.heap.size := hsz
 rintro _ w1 ⟨bt1, T1, rfl, hT1, hbl1, hTl1, hTab, hE1⟩
 replace hB := below_ext hB hE1 hsz
 replace hsz := Nat.le_trans hsz hE1.size
 have hbs_bt1 : w.heap.size ≤ bt1 := Nat.le_trans hszp1 hbl1
 refine l_q (q_nilCheck rfl rfl) (l_q (q_indexAddr_arr Tryz.underlying193 Tryz.sizeOf168 rfl rfl (by decide) rfl) (l_q (q_indexAddr_arr1 Tryz.underlying168 Tryz.sizeOf3 rfl rfl (by decide) rfl) (l_q (q_load Tryz.isAgg3 rfl ((hT1.has (o := 0 + 0 * 41 + 0) (imap (by omega)))) rfl) (l_q (qai rfl rfl) (l_nil (r_forget [(6, .int _ _)] ⟨rfl, trivial⟩ (fun e2 => (r_seq (r_region' (l_q (qmi rfl rfl) (l_q (qmi rfl rfl) (l_q (q_lss rfl rfl rfl) (l_q (qai rfl rfl) (l_q (qab rfl rfl) (l_nil (r_ret_ (vs := [.int _ _, .bool _]) rfl Tryz.func105 rfl (.nil _) ⟨rfl, rfl, trivial⟩ ?_))))))))))))))))
 have h0 := hTab 0 0 (Nat.zero_le _) (Nat.zero_le _)
 exact ⟨tup2 (vint_eq h0) (vbool_eq (by rw [show ∀ a b : Int, a = b → decide (a < 1000) = decide (b < 1000) from fun a b h => by rw [h]]; exact h0)), Ext.of_below hB⟩
end Go.Proofs.YtekkdhpgcilpdaaGreat
