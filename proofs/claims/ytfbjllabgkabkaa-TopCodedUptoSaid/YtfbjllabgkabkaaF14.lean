/- Contracts. -/
import Derived.Test.YtfbjllabgkabkaaF13
set_option linter.unusedVariables false
set_option linter.unusedSimpArgs false
namespace Go.Proofs.Ytfbjllabgkabkaa
open Go Go.RowKit Go.Gv Go.Fl

def sg1 (rd : Sg) (R B : List Int) (la sg : UInt8) (k : Nat) : Int := R.getD k 0 + 1
def sg2 (rd : Sg) (R B : List Int) (la sg : UInt8) (k : Nat) : Int := if 0 < k ∧ ((rd.getD (k - 1) 0).toNat : Int) = (sg.toNat : Int) then min (sg1 rd R B la sg k) (R.getD (k - 1) 0) else sg1 rd R B la sg k
def sg3 (rd : Sg) (R B : List Int) (la sg : UInt8) (k : Nat) : Int := if 1 < k ∧ (sg.toNat : Int) = 45 ∧ (rd.take k).drop (k - 2) = [46, 46] then min (sg2 rd R B la sg k) (R.getD (k - 2) 0 + 1) else sg2 rd R B la sg k
def sg4 (rd : Sg) (R B : List Int) (la sg : UInt8) (k : Nat) : Int := if 0 < k ∧ (sg.toNat : Int) = 46 ∧ (la.toNat : Int) = 46 ∧ ((rd.getD (k - 1) 0).toNat : Int) = 45 then min (sg3 rd R B la sg k) (B.getD (k - 1) 0 + 1) else sg3 rd R B la sg k
def sgv (rd : Sg) (R B : List Int) (la sg : UInt8) : Nat → Int
  | 0 => if rd.length < 0 then 1048576 else min (sg4 rd R B la sg 0) 1048576
  | k + 1 => if rd.length < k + 1 then 1048576 else min (if ((rd.getD k 0).toNat : Int) = 32 then min (sg4 rd R B la sg (k + 1)) (sgv rd R B la sg k + 1) else sg4 rd R B la sg (k + 1)) 1048576
def sg5 (rd : Sg) (R B : List Int) (la sg : UInt8) (k : Nat) : Int := if 0 < k ∧ ((rd.getD (k - 1) 0).toNat : Int) = 32 then min (sg4 rd R B la sg k) (sgv rd R B la sg (k - 1) + 1) else sg4 rd R B la sg k
def so (rd : Sg) (R B : List Int) (la sg : UInt8) (k : Nat) : List Int := (List.range k).map (sgv rd R B la sg) ++ List.replicate (41 - k) 0
section
variable {rd : Sg} {R B : List Int} {la sg : UInt8} {k : Nat}
theorem so_len (rd : Sg) (R B : List Int) (la sg : UInt8) (k : Nat) (hk : k ≤ 41 := by omega) : (so rd R B la sg k).length = 41 := by simp [so]; omega
theorem sg_bounds (hR : ∀ i, 0 ≤ R.getD i 0 ∧ R.getD i 0 ≤ 1048576) (hB : ∀ i, 0 ≤ B.getD i 0 ∧ B.getD i 0 ≤ 1048576) (rd : Sg) (la sg : UInt8) (k : Nat) : (0 ≤ sg4 rd R B la sg k ∧ sg4 rd R B la sg k ≤ 1048577) := by
  have h1 := hR k; have h2 := hR (k - 1); have h3 := hR (k - 2); have h4 := hB (k - 1)
  unfold sg4 sg3 sg2 sg1
  repeat' split
  all_goals omega
theorem sgv_bounds (hR : ∀ i, 0 ≤ R.getD i 0 ∧ R.getD i 0 ≤ 1048576) (hB : ∀ i, 0 ≤ B.getD i 0 ∧ B.getD i 0 ≤ 1048576) (rd : Sg) (la sg : UInt8) : ∀ k, 0 ≤ sgv rd R B la sg k ∧ sgv rd R B la sg k ≤ 1048576
  | 0 => by have := sg_bounds hR hB rd la sg 0; unfold sgv; split <;> omega
  | k + 1 => by
    have := sg_bounds hR hB rd la sg (k + 1); have h2 := sgv_bounds hR hB rd la sg k; unfold sgv
    repeat' split
    all_goals omega
theorem so_get {i : Nat} (hi : i < k) : (so rd R B la sg k).getD i 0 = sgv rd R B la sg i := by
  unfold so
  rw [List.getD_eq_getElem?_getD, List.getElem?_append_left (by simpa using hi)]
  simp [hi]
theorem so_set (hk : k < 41) : (so rd R B la sg k).set k (sgv rd R B la sg k) = so rd R B la sg (k + 1) := by
  unfold so
  rw [List.set_append_right _ _ (by simp)]
  have : 41 - k = (41 - (k + 1)) + 1 := by omega
  rw [this, List.replicate_succ, List.range_succ]
  simp
theorem sgj {l : List Int} {x a : Int} (h : k < l.length) : (l.set k x).set k (minOf [(l.set k x).getD k 0, a]) = l.set k (min x a) := by
  rw [List.set_set, getD_set_eq h, min_two]
theorem blk_eq {w : World} {b : Nat} {l l' : List Int} (h : l = l') (hb : Blk w b (l.map vint)) : Blk w b (l'.map vint) := h ▸ hb
theorem so_pos (hk : k < 41) (x : Int) : k < ((so rd R B la sg k).set k x).length ∧ k < (so rd R B la sg k).length := by
  rw [List.length_set, so_len _ _ _ _ _ _ (by omega)]; exact ⟨hk, hk⟩
theorem sg2_yes (hk : k < 41) (h : 0 < k ∧ ((rd.getD (k - 1) 0).toNat : Int) = (sg.toNat : Int)) :
    (((so rd R B la sg k).set k 1048576).set k (sg1 rd R B la sg k)).set k (minOf [(((so rd R B la sg k).set k 1048576).set k (sg1 rd R B la sg k)).getD k 0, R.getD ((k : Int) - 1).toNat 0]) = (so rd R B la sg k).set k (sg2 rd R B la sg k) := by
  rw [sgj (so_pos hk _).1, List.set_set, sg2, if_pos h, show ((k : Int) - 1).toNat = k - 1 by omega]
theorem sg2_no (h : ¬ (0 < k ∧ ((rd.getD (k - 1) 0).toNat : Int) = (sg.toNat : Int))) : ((so rd R B la sg k).set k 1048576).set k (sg1 rd R B la sg k) = (so rd R B la sg k).set k (sg2 rd R B la sg k) := by
  rw [List.set_set, sg2, if_neg h]
theorem sg3_yes (hk : k < 41) (h : 1 < k ∧ (sg.toNat : Int) = 45 ∧ (rd.take k).drop (k - 2) = [46, 46]) :
    ((so rd R B la sg k).set k (sg2 rd R B la sg k)).set k (minOf [((so rd R B la sg k).set k (sg2 rd R B la sg k)).getD k 0, R.getD ((k : Int) - 2).toNat 0 + 1]) = (so rd R B la sg k).set k (sg3 rd R B la sg k) := by
  rw [sgj (so_pos hk 0).2, sg3, if_pos h, show ((k : Int) - 2).toNat = k - 2 by omega]
theorem sg3_no (h : ¬ (1 < k ∧ (sg.toNat : Int) = 45 ∧ (rd.take k).drop (k - 2) = [46, 46])) : (so rd R B la sg k).set k (sg2 rd R B la sg k) = (so rd R B la sg k).set k (sg3 rd R B la sg k) := by rw [sg3, if_neg h]
theorem sg4_yes (hk : k < 41) (h : 0 < k ∧ (sg.toNat : Int) = 46 ∧ (la.toNat : Int) = 46 ∧ ((rd.getD (k - 1) 0).toNat : Int) = 45) :
    ((so rd R B la sg k).set k (sg3 rd R B la sg k)).set k (minOf [((so rd R B la sg k).set k (sg3 rd R B la sg k)).getD k 0, B.getD ((k : Int) - 1).toNat 0 + 1]) = (so rd R B la sg k).set k (sg4 rd R B la sg k) := by
  rw [sgj (so_pos hk 0).2, sg4, if_pos h, show ((k : Int) - 1).toNat = k - 1 by omega]
theorem sg4_no (h : ¬ (0 < k ∧ (sg.toNat : Int) = 46 ∧ (la.toNat : Int) = 46 ∧ ((rd.getD (k - 1) 0).toNat : Int) = 45)) : (so rd R B la sg k).set k (sg3 rd R B la sg k) = (so rd R B la sg k).set k (sg4 rd R B la sg k) := by rw [sg4, if_neg h]
theorem sg5_yes (hk : k < 41) (h : 0 < k ∧ ((rd.getD (k - 1) 0).toNat : Int) = 32) :
    ((so rd R B la sg k).set k (sg4 rd R B la sg k)).set k (minOf [((so rd R B la sg k).set k (sg4 rd R B la sg k)).getD k 0, ((so rd R B la sg k).set k (sg4 rd R B la sg k)).getD ((k : Int) - 1).toNat 0 + 1]) = (so rd R B la sg k).set k (sg5 rd R B la sg k) := by
  rw [sgj (so_pos hk 0).2, show ((k : Int) - 1).toNat = k - 1 by omega, Gv.getD_set_ne (by omega), so_get (by omega), sg5, if_pos h]
theorem sg5_no (h : ¬ (0 < k ∧ ((rd.getD (k - 1) 0).toNat : Int) = 32)) : (so rd R B la sg k).set k (sg4 rd R B la sg k) = (so rd R B la sg k).set k (sg5 rd R B la sg k) := by rw [sg5, if_neg h]
theorem sgv_far (h : rd.length < k) : sgv rd R B la sg k = 1048576 := by cases k <;> (unfold sgv; rw [if_pos h])
theorem sgv_eq (h : k ≤ rd.length) : sgv rd R B la sg k = min (sg5 rd R B la sg k) 1048576 := by
  cases k with
  | zero => unfold sgv sg5; rw [if_neg (by omega), if_neg (by omega)]
  | succ k =>
    rw [sgv, if_neg (by omega), sg5]
    congr 1
    by_cases hb : ((rd.getD k 0).toNat : Int) = 32
    · rw [if_pos hb, if_pos ⟨by omega, by simpa using hb⟩]; rfl
    · rw [if_neg hb, if_neg (fun h => hb (by simpa using h.2))]
theorem so_far (hk : k < 41) (h : rd.length < k) : (so rd R B la sg k).set k 1048576 = so rd R B la sg (k + 1) := by rw [← so_set hk, sgv_far h]
theorem so_next (hk : k < 41) (h : k ≤ rd.length) : ((so rd R B la sg k).set k (sg5 rd R B la sg k)).set k (minOf [((so rd R B la sg k).set k (sg5 rd R B la sg k)).getD k 0, 1048576]) = so rd R B la sg (k + 1) := by
  rw [sgj (so_pos hk 0).2, ← so_set hk, sgv_eq h]
end


theorem sign_ret (a : Option Addr) (cc : Nat) (c : List Sg) (rd : Sg) (er : Int) (R B : List Int) (la sg : UInt8) (w : World) (hrow : Row w a c.length cc 1 (c.map vstr)) (hcn : c.length ≤ 2097152) (hrd : rd.length ≤ 40) (hRl : R.length = 41) (hBl : B.length = 41) (hRb : ∀ i, 0 ≤ R.getD i 0 ∧ R.getD i 0 ≤ 1048576) (hBb : ∀ i, 0 ≤ B.getD i 0 ∧ B.getD i 0 ≤ 1048576) : Ret Try.prog 76 [.agg ⟨[.slice a c.length cc, vstr rd, vint er]⟩, .agg ⟨(R).map vint⟩, .agg ⟨(B).map vint⟩, .int .u8 la.toNat, .int .u8 sg.toNat] w (fun v w' => v = .agg ⟨(so rd R B la sg 41).map vint⟩ ∧ Ext w w') := by
  have hB := Below.refl w.heap.size w
  have hsz : w.heap.size ≤ w.heap.size := Nat.le_refl _
  refine ret_of_runs (args := [_, _, _, _, _]) Try.func76 rfl (Nat.le_of_ble_eq_true rfl) (by kernel_rfl) ?_
  refine r_seq ?_
  refine r_region' ?_
  refine l_o (o_box rfl rfl rfl ?_)
  intro b1 w1 hzl1 hzr1 _ hb1 hE1
  have hbs_b1 : w.heap.size ≤ b1 := Nat.le_trans hsz hzl1
  replace hB := below_ext hB hE1 hsz
  replace hsz := Nat.le_trans hsz hE1.size
  refine l_o (o_box rfl rfl rfl ?_)
  intro b2 w2 hzl2 hzr2 _ hb2 hE2
  have hne_b1_b2 : b1 ≠ b2 := by have := hb1.lt; omega
  have hbs_b2 : w.heap.size ≤ b2 := Nat.le_trans hsz hzl2
  replace hB := below_ext hB hE2 hsz
  replace hb1 := hb1.ext hE2
  replace hsz := Nat.le_trans hsz hE2.size
  refine l_o (o_box rfl rfl rfl ?_)
  intro b3 w3 hzl3 hzr3 _ hb3 hE3
  have hne_b1_b3 : b1 ≠ b3 := by have := hb1.lt; omega
  have hne_b2_b3 : b2 ≠ b3 := by have := hb2.lt; omega
  have hbs_b3 : w.heap.size ≤ b3 := Nat.le_trans hsz hzl3
  replace hB := below_ext hB hE3 hsz
  replace hb1 := hb1.ext hE3
  replace hb2 := hb2.ext hE3
  replace hsz := Nat.le_trans hsz hE3.size
  refine l_o (o_alloc Try.zeroValue101 rfl rfl ?_)
  intro b4 w4 hzl4 hzr4 _ hb4 hE4
  have hne_b1_b4 : b1 ≠ b4 := by have := hb1.lt; omega
  have hne_b2_b4 : b2 ≠ b4 := by have := hb2.lt; omega
  have hne_b3_b4 : b3 ≠ b4 := by have := hb3.lt; omega
  have hbs_b4 : w.heap.size ≤ b4 := Nat.le_trans hsz hzl4
  replace hB := below_ext hB hE4 hsz
  replace hb1 := hb1.ext hE4
  replace hb2 := hb2.ext hE4
  replace hb3 := hb3.ext hE4
  replace hsz := Nat.le_trans hsz hE4.size
  refine l_nil ?_
  refine r_forget [(3, .int _ _), (4, .int _ _), (5, .pointer _), (6, .pointer _), (7, .pointer _), (10, .pointer _)] ⟨rfl, rfl, rfl, rfl, rfl, rfl, trivial⟩ (fun e5 => ?_)
  refine r_seq ?_
  refine r_seq ?_
  replace hb4 : Blk w4 b4 ((so rd R B la sg 0).map vint) := hb4
  refine r_region' ?_
  refine l_q (q_move (v := .int _ _) rfl rfl) ?_
  refine l_nil ?_
  refine r_block ?_
  refine r_rounds (α := Nat) (fun k e wl => Knows e [(3, .int .u8 la.toNat), (4, .int .u8 sg.toNat), (5, ptr b1 0), (6, ptr b2 0), (7, ptr b3 0), (10, ptr b4 0), (12, vint (k : Int))] ∧ (k ≤ 41) ∧ (Blk wl b4 ((so rd R B la sg k).map vint)) ∧ (Blk wl b1 [.slice a c.length cc, vstr rd, vint er]) ∧ (Blk wl b2 ((R).map vint)) ∧ (Blk wl b3 ((B).map vint)) ∧ (w.heap.size ≤ wl.heap.size) ∧ (Below w.heap.size w wl)) (fun k => 41 - k) 0 ?_ ?_
  · skip
    exact ⟨⟨rfl, rfl, rfl, rfl, rfl, rfl, rfl, trivial⟩, (by omega), hb4, hb1, hb2, hb3, hsz, hB⟩
  · skip
    rintro k el6 wl6 ⟨hkn, hk, hb4, hb1, hb2, hb3, hsz, hB⟩ ih6
    obtain ⟨e6, rfl⟩ := knows_env hkn
    refine r_seq ?_
    refine r_region' ?_
    refine l_q (q_lss rfl rfl rfl) ?_
    refine l_nil ?_
    refine r_seq ?_
    refine r_cond rfl (fun hc7 => ?_) (fun hc7 => ?_)
    · skip
      try simp only [decide_eq_true_eq, decide_eq_false_iff_not, Bool.not_eq_true', Bool.not_eq_false', Bool.not_not, Bool.not_true, Bool.not_false, Bool.not_eq_true, Bool.not_eq_false, Int.not_lt, Int.not_le, Bool.and_eq_true, Bool.or_eq_true, Bool.and_eq_false_iff, Bool.or_eq_false_iff] at hc7
      have hk41 : k < 41 := by omega
      refine r_skip ?_
      refine r_seq ?_
      refine r_block ?_
      refine r_seq ?_
      refine r_region' ?_
      refine l_q (q_move (v := .int _ _) rfl rfl) ?_
      refine l_q (q_assign (v := .int _ _) rfl rfl) ?_
      refine l_nil ?_
      refine r_forget [(3, .int _ _), (4, .int _ _), (5, .pointer _), (6, .pointer _), (7, .pointer _), (10, .pointer _), (11, .int _ _), (12, .int _ _)] ⟨rfl, rfl, rfl, rfl, rfl, rfl, rfl, rfl, trivial⟩ (fun e8 => ?_)
      refine r_seq ?_
      refine r_region' ?_
      refine l_q (q_move (v := .int _ _) rfl rfl) ?_
      refine l_q ((q_indexAddr_arr1 Try.underlying101 Try.sizeOf3 rfl rfl (by omega) rfl).cast (ptr0 _ _)) ?_
      refine l_o (o_store1 (v := vint 1048576) (o := k) Try.sizeOf3 rfl rfl rfl rfl hb4 (by rw [List.length_map]; (try simp only [List.length_set]); have := so_len rd R B la sg k; omega) rfl ?_)
      intro w9 hz9 hb4 hG9
      rw [imap_set] at hb4
      replace hB := below_upd hB hG9 hsz (by omega)
      replace hsz : w.heap.size ≤ w9.heap.size := by rw [hz9]; exact hsz
      replace hb1 := hb1.upd hG9 (by omega)
      replace hb2 := hb2.upd hG9 (by omega)
      replace hb3 := hb3.upd hG9 (by omega)
      refine l_nil ?_
      refine r_forget [(3, .int _ _), (4, .int _ _), (5, .pointer _), (6, .pointer _), (7, .pointer _), (10, .pointer _), (11, .int _ _), (12, .int _ _)] ⟨rfl, rfl, rfl, rfl, rfl, rfl, rfl, rfl, trivial⟩ (fun e10 => ?_)
      refine r_seq ?_
      refine r_seq ?_
      refine r_region' ?_
      refine l_q (q_move (v := .int _ _) rfl rfl) ?_
      refine l_q (q_fieldAddr (o' := 1) rfl fld82_1 rfl) ?_
      refine l_q (q_load Try.isAgg9 rfl ((hb1.has (o := 1) rfl)) rfl) ?_
      refine l_q (q_len_str rfl Try.underlying9 rfl rfl) ?_
      refine l_q (q_gtr rfl rfl rfl) ?_
      refine l_nil ?_
      refine r_forget [(3, .int _ _), (4, .int _ _), (5, .pointer _), (6, .pointer _), (7, .pointer _), (10, .pointer _), (11, .int _ _), (12, .int _ _), (21, .bool _)] ⟨rfl, rfl, rfl, rfl, rfl, rfl, rfl, rfl, rfl, trivial⟩ (fun e11 => ?_)
      refine r_cond rfl (fun hc12 => ?_) (fun hc12 => ?_)
      · skip
        try simp only [decide_eq_true_eq, decide_eq_false_iff_not, Bool.not_eq_true', Bool.not_eq_false', Bool.not_not, Bool.not_true, Bool.not_false, Bool.not_eq_true, Bool.not_eq_false, Int.not_lt, Int.not_le, Bool.and_eq_true, Bool.or_eq_true, Bool.and_eq_false_iff, Bool.or_eq_false_iff] at hc12
        refine r_exit rfl ?_
        refine r_region' ?_
        refine l_q (q_add rfl rfl (by omega) rfl) ?_
        refine l_q (q_move (v := .int _ _) rfl rfl) ?_
        refine l_nil ?_
        refine r_forget [(3, .int _ _), (4, .int _ _), (5, .pointer _), (6, .pointer _), (7, .pointer _), (10, .pointer _), (12, .int _ _)] ⟨rfl, rfl, rfl, rfl, rfl, rfl, rfl, trivial⟩ (fun e13 => ?_)
        exact ih6 (k + 1) _ _ ⟨⟨rfl, rfl, rfl, rfl, rfl, rfl, by first | rfl | exact vint_eq (by omega), trivial⟩, (by omega), (blk_eq (so_far hk41 (by omega)) hb4), hb1, hb2, hb3, hsz, hB⟩ (by first | omega | (dsimp only; omega))
      · skip
        try simp only [decide_eq_true_eq, decide_eq_false_iff_not, Bool.not_eq_true', Bool.not_eq_false', Bool.not_not, Bool.not_true, Bool.not_false, Bool.not_eq_true, Bool.not_eq_false, Int.not_lt, Int.not_le, Bool.and_eq_true, Bool.or_eq_true, Bool.and_eq_false_iff, Bool.or_eq_false_iff] at hc12
        have hkr : k ≤ rd.length := by omega
        have hRk := hRb k
        have hs1 := sg_bounds hRb hBb rd la sg k
        refine r_skip ?_
        refine r_seq ?_
        refine r_region' ?_
        refine l_q (q_move (v := .int _ _) rfl rfl) ?_
        refine l_q (q_move (v := .int _ _) rfl rfl) ?_
        refine l_q ((q_indexAddr_arr1 Try.underlying101 Try.sizeOf3 rfl rfl (by omega) rfl).cast (ptr0 _ _)) ?_
        refine l_q (q_load Try.isAgg3 rfl ((hb2.has (o := k) (imap (by omega)))) rfl) ?_
        refine l_q (q_add rfl rfl (by omega) rfl) ?_
        refine l_q ((q_indexAddr_arr1 Try.underlying101 Try.sizeOf3 rfl rfl (by omega) rfl).cast (ptr0 _ _)) ?_
        refine l_o (o_store1 (v := vint (((R).getD k 0) + 1)) (o := k) Try.sizeOf3 rfl rfl rfl rfl hb4 (by rw [List.length_map]; (try simp only [List.length_set]); have := so_len rd R B la sg k; omega) rfl ?_)
        intro w14 hz14 hb4 hG14
        rw [imap_set] at hb4
        replace hB := below_upd hB hG14 hsz (by omega)
        replace hsz : w.heap.size ≤ w14.heap.size := by rw [hz14]; exact hsz
        replace hb1 := hb1.upd hG14 (by omega)
        replace hb2 := hb2.upd hG14 (by omega)
        replace hb3 := hb3.upd hG14 (by omega)
        refine l_nil ?_
        refine r_forget [(3, .int _ _), (4, .int _ _), (5, .pointer _), (6, .pointer _), (7, .pointer _), (10, .pointer _), (11, .int _ _), (12, .int _ _)] ⟨rfl, rfl, rfl, rfl, rfl, rfl, rfl, rfl, trivial⟩ (fun e15 => ?_)
        refine r_seq ?_
        refine r_ifj (α := Unit) (fun _ e wl => Knows e [(3, .int .u8 la.toNat), (4, .int .u8 sg.toNat), (5, ptr b1 0), (6, ptr b2 0), (7, ptr b3 0), (10, ptr b4 0), (11, vint (k : Int)), (12, vint (k : Int))] ∧ (Blk wl b4 (((so rd R B la sg k).set k (sg2 rd R B la sg k)).map vint)) ∧ (Blk wl b1 [.slice a c.length cc, vstr rd, vint er]) ∧ (Blk wl b2 ((R).map vint)) ∧ (Blk wl b3 ((B).map vint)) ∧ (w.heap.size ≤ wl.heap.size) ∧ (Below w.heap.size w wl)) ?_ ?_
        · skip
          rintro _ el16 wl16 ⟨hkn, hb4, hb1, hb2, hb3, hsz, hB⟩
          obtain ⟨e16, rfl⟩ := knows_env hkn
          refine r_seq ?_
          refine r_ifj (α := Unit) (fun _ e wl => Knows e [(3, .int .u8 la.toNat), (4, .int .u8 sg.toNat), (5, ptr b1 0), (6, ptr b2 0), (7, ptr b3 0), (10, ptr b4 0), (11, vint (k : Int)), (12, vint (k : Int))] ∧ (Blk wl b4 (((so rd R B la sg k).set k (sg3 rd R B la sg k)).map vint)) ∧ (Blk wl b1 [.slice a c.length cc, vstr rd, vint er]) ∧ (Blk wl b2 ((R).map vint)) ∧ (Blk wl b3 ((B).map vint)) ∧ (w.heap.size ≤ wl.heap.size) ∧ (Below w.heap.size w wl)) ?_ ?_
          · skip
            rintro _ el17 wl17 ⟨hkn, hb4, hb1, hb2, hb3, hsz, hB⟩
            obtain ⟨e17, rfl⟩ := knows_env hkn
            refine r_seq ?_
            refine r_ifj (α := Unit) (fun _ e wl => Knows e [(3, .int .u8 la.toNat), (4, .int .u8 sg.toNat), (5, ptr b1 0), (6, ptr b2 0), (7, ptr b3 0), (10, ptr b4 0), (11, vint (k : Int)), (12, vint (k : Int))] ∧ (Blk wl b4 (((so rd R B la sg k).set k (sg4 rd R B la sg k)).map vint)) ∧ (Blk wl b1 [.slice a c.length cc, vstr rd, vint er]) ∧ (Blk wl b2 ((R).map vint)) ∧ (Blk wl b3 ((B).map vint)) ∧ (w.heap.size ≤ wl.heap.size) ∧ (Below w.heap.size w wl)) ?_ ?_
            · skip
              rintro _ el18 wl18 ⟨hkn, hb4, hb1, hb2, hb3, hsz, hB⟩
              obtain ⟨e18, rfl⟩ := knows_env hkn
              refine r_seq ?_
              refine r_ifj (α := Unit) (fun _ e wl => Knows e [(3, .int .u8 la.toNat), (4, .int .u8 sg.toNat), (5, ptr b1 0), (6, ptr b2 0), (7, ptr b3 0), (10, ptr b4 0), (11, vint (k : Int)), (12, vint (k : Int))] ∧ (Blk wl b4 (((so rd R B la sg k).set k (sg5 rd R B la sg k)).map vint)) ∧ (Blk wl b1 [.slice a c.length cc, vstr rd, vint er]) ∧ (Blk wl b2 ((R).map vint)) ∧ (Blk wl b3 ((B).map vint)) ∧ (w.heap.size ≤ wl.heap.size) ∧ (Below w.heap.size w wl)) ?_ ?_
              · skip
                rintro _ el19 wl19 ⟨hkn, hb4, hb1, hb2, hb3, hsz, hB⟩
                obtain ⟨e19, rfl⟩ := knows_env hkn
                refine r_region' ?_
                refine l_q (q_move (v := .int _ _) rfl rfl) ?_
                refine l_q (q_move (v := .int _ _) rfl rfl) ?_
                refine l_q ((q_indexAddr_arr1 Try.underlying101 Try.sizeOf3 rfl rfl (by omega) rfl).cast (ptr0 _ _)) ?_
                refine l_q (q_load Try.isAgg3 rfl ((hb4.has (o := k) (imap (by (try simp only [List.length_set]); have := so_len rd R B la sg k; omega)))) rfl) ?_
                refine l_o (o_buildSlice (el := 3) (cs := [vint (((so rd R B la sg k).set k (sg5 rd R B la sg k)).getD k 0), vint 1048576]) Try.underlying26 el3 (by decide) (by kernel_rfl) rfl (by decide) rfl ?_)
                intro b20 w20 hzl20 hzr20 _ hb20 hE20 ho20
                have hne_b1_b20 : b1 ≠ b20 := by have := hb1.lt; omega
                have hne_b2_b20 : b2 ≠ b20 := by have := hb2.lt; omega
                have hne_b3_b20 : b3 ≠ b20 := by have := hb3.lt; omega
                have hne_b4_b20 : b4 ≠ b20 := by have := hb4.lt; omega
                have hbs_b20 : w.heap.size ≤ b20 := Nat.le_trans hsz hzl20
                replace hB := below_ext hB hE20 hsz
                replace hb1 := hb1.ext hE20
                replace hb2 := hb2.ext hE20
                replace hb3 := hb3.ext hE20
                replace hb4 := hb4.ext hE20
                replace hsz := Nat.le_trans hsz hE20.size
                refine l_o (o_call Try.call77 rfl (minimum_ret _ _ [((so rd R B la sg k).set k (sg5 rd R B la sg k)).getD k 0, 1048576] _ (Row.of_owns ho20) (by first | omega | simp) (by first | omega | simp)) rfl ?_)
                rintro _ w21 ⟨rfl, hE21⟩
                replace hB := below_ext hB hE21 hsz
                replace hb1 := hb1.ext hE21
                replace hb2 := hb2.ext hE21
                replace hb3 := hb3.ext hE21
                replace hb4 := hb4.ext hE21
                replace ho20 := own_ext ho20 hE21
                replace hsz := Nat.le_trans hsz hE21.size
                refine l_q ((q_indexAddr_arr1 Try.underlying101 Try.sizeOf3 rfl rfl (by omega) rfl).cast (ptr0 _ _)) ?_
                refine l_o (o_store1 (v := vint (minOf [((so rd R B la sg k).set k (sg5 rd R B la sg k)).getD k 0, 1048576])) (o := k) Try.sizeOf3 rfl rfl rfl rfl hb4 (by rw [List.length_map]; (try simp only [List.length_set]); have := so_len rd R B la sg k; omega) rfl ?_)
                intro w22 hz22 hb4 hG22
                rw [imap_set] at hb4
                replace hB := below_upd hB hG22 hsz (by omega)
                replace hsz : w.heap.size ≤ w22.heap.size := by rw [hz22]; exact hsz
                replace hb1 := hb1.upd hG22 (by omega)
                replace hb2 := hb2.upd hG22 (by omega)
                replace hb3 := hb3.upd hG22 (by omega)
                refine l_nil ?_
                refine r_forget [(3, .int _ _), (4, .int _ _), (5, .pointer _), (6, .pointer _), (7, .pointer _), (10, .pointer _), (12, .int _ _)] ⟨rfl, rfl, rfl, rfl, rfl, rfl, rfl, trivial⟩ (fun e23 => ?_)
                refine r_inBlock ?_
                refine r_region' ?_
                refine l_q (q_add rfl rfl (by omega) rfl) ?_
                refine l_q (q_move (v := .int _ _) rfl rfl) ?_
                refine l_nil ?_
                refine r_forget [(3, .int _ _), (4, .int _ _), (5, .pointer _), (6, .pointer _), (7, .pointer _), (10, .pointer _), (12, .int _ _)] ⟨rfl, rfl, rfl, rfl, rfl, rfl, rfl, trivial⟩ (fun e24 => ?_)
                exact ih6 (k + 1) _ _ ⟨⟨rfl, rfl, rfl, rfl, rfl, rfl, by first | rfl | exact vint_eq (by omega), trivial⟩, (by omega), (blk_eq (so_next hk41 hkr) hb4), hb1, hb2, hb3, hsz, hB⟩ (by first | omega | (dsimp only; omega))
              · intro hj19
                refine r_seq ?_
                refine r_region' ?_
                refine l_q (q_move (v := .int _ _) rfl rfl) ?_
                refine l_q (q_gtr rfl rfl rfl) ?_
                refine l_q (q_move (v := .bool _) rfl rfl) ?_
                refine l_part 109 rfl (fun hc25 => ?_) (fun hc25 => ?_)
                · skip
                  try simp only [decide_eq_true_eq, decide_eq_false_iff_not, Bool.not_eq_true', Bool.not_eq_false', Bool.not_not, Bool.not_true, Bool.not_false, Bool.not_eq_true, Bool.not_eq_false, Int.not_lt, Int.not_le, Bool.and_eq_true, Bool.or_eq_true, Bool.and_eq_false_iff, Bool.or_eq_false_iff] at hc25
                  refine l_q (q_fieldAddr (o' := 1) rfl fld82_1 rfl) ?_
                  refine l_q (q_load Try.isAgg9 rfl ((hb1.has (o := 1) rfl)) rfl) ?_
                  refine l_q (q_move (v := .int _ _) rfl rfl) ?_
                  refine l_q (q_sub rfl rfl (by omega) rfl) ?_
                  refine l_q (q_index_str (c := (rd).getD ((k : Int) - 1).toNat 0) Try.underlying9 rfl rfl (by omega) (getD_some (by omega)) rfl) ?_
                  refine l_q (q_eql rfl rfl rfl) ?_
                  refine l_q (q_pick_t (v := .bool _) rfl rfl rfl) ?_
                  refine l_nil ?_
                  refine r_forget [(3, .int _ _), (4, .int _ _), (5, .pointer _), (6, .pointer _), (7, .pointer _), (10, .pointer _), (11, .int _ _), (12, .int _ _), (116, .bool _)] ⟨rfl, rfl, rfl, rfl, rfl, rfl, rfl, rfl, rfl, trivial⟩ (fun e26 => ?_)
                  refine r_cond rfl (fun hc27 => ?_) (fun hc27 => ?_)
                  · skip
                    try simp only [decide_eq_true_eq, decide_eq_false_iff_not, Bool.not_eq_true', Bool.not_eq_false', Bool.not_not, Bool.not_true, Bool.not_false, Bool.not_eq_true, Bool.not_eq_false, Int.not_lt, Int.not_le, Bool.and_eq_true, Bool.or_eq_true, Bool.and_eq_false_iff, Bool.or_eq_false_iff] at hc27
                    have hkm : ((k : Int) - 1).toNat = k - 1 := by omega
                    have hbq := hc27
                    rw [hkm] at hbq
                    refine r_draw ext_refl' ext_trans' [0, 1, 2, 3, 4, 5, 6, 7, 8, 9, 10, 11, 12] [9, 10, 12, 1012] 2 (by kernel_rfl) (by kernel_rfl) ?_
                    intro w28 _ hE28
                    replace hB := below_ext hB hE28 hsz
                    replace hb1 := hb1.ext hE28
                    replace hb2 := hb2.ext hE28
                    replace hb3 := hb3.ext hE28
                    replace hb4 := hb4.ext hE28
                    replace hsz := Nat.le_trans hsz hE28.size
                    refine m_q rfl rfl (fun w' hC' => q_move (v := .int _ _) rfl rfl) ?_
                    refine m_q rfl rfl (fun w' hC' => q_move (v := .int _ _) rfl rfl) ?_
                    refine m_q rfl rfl (fun w' hC' => (q_indexAddr_arr1 Try.underlying101 Try.sizeOf3 rfl rfl (by omega) rfl).cast (ptr0 _ _)) ?_
                    refine m_q rfl rfl (fun w' hC' => q_load Try.isAgg3 rfl (((hb4.has (o := k) (imap (by (try simp only [List.length_set]); have := so_len rd R B la sg k; omega))).ext hC')) rfl) ?_
                    refine m_q rfl rfl (fun w' hC' => q_move (v := .int _ _) rfl rfl) ?_
                    refine m_q rfl rfl (fun w' hC' => q_sub rfl rfl (by omega) rfl) ?_
                    refine m_q rfl rfl (fun w' hC' => (q_indexAddr_arr1 Try.underlying101 Try.sizeOf3 rfl rfl (by omega) rfl).cast (ptr0 _ _)) ?_
                    refine m_q rfl rfl (fun w' hC' => q_load Try.isAgg3 rfl (((hb4.has (o := ((k : Int) - 1).toNat) (imap (by (try simp only [List.length_set]); have := so_len rd R B la sg k; omega))).ext hC')) rfl) ?_
                    refine m_q rfl rfl (fun w' hC' => q_add rfl rfl (by rw [show ((k : Int) - 1).toNat = k - 1 by omega, Gv.getD_set_ne (by omega), so_get (by omega)]; have := sgv_bounds hRb hBb rd la sg (k - 1); omega) rfl) ?_
                    refine m_o rfl rfl (o_buildSlice (el := 3) (cs := [vint (((so rd R B la sg k).set k (sg4 rd R B la sg k)).getD k 0), vint ((((so rd R B la sg k).set k (sg4 rd R B la sg k)).getD (((k : Int) - 1).toNat) 0) + 1)]) Try.underlying26 el3 (by decide) (by kernel_rfl) rfl (by decide) rfl ?_)
                    intro b29 w29 hzl29 hzr29 _ hb29 hE29 ho29
                    refine ⟨hE29, ?_⟩
                    have hne_b1_b29 : b1 ≠ b29 := by have := hb1.lt; omega
                    have hne_b2_b29 : b2 ≠ b29 := by have := hb2.lt; omega
                    have hne_b3_b29 : b3 ≠ b29 := by have := hb3.lt; omega
                    have hne_b4_b29 : b4 ≠ b29 := by have := hb4.lt; omega
                    have hbs_b29 : w.heap.size ≤ b29 := Nat.le_trans hsz hzl29
                    replace hB := below_ext hB hE29 hsz
                    replace hb1 := hb1.ext hE29
                    replace hb2 := hb2.ext hE29
                    replace hb3 := hb3.ext hE29
                    replace hb4 := hb4.ext hE29
                    replace hsz := Nat.le_trans hsz hE29.size
                    refine m_o rfl rfl (o_call Try.call77 rfl (minimum_ret _ _ [((so rd R B la sg k).set k (sg4 rd R B la sg k)).getD k 0, (((so rd R B la sg k).set k (sg4 rd R B la sg k)).getD (((k : Int) - 1).toNat) 0) + 1] _ (Row.of_owns ho29) (by first | omega | simp) (by first | omega | simp)) rfl ?_)
                    rintro _ w30 ⟨rfl, hE30⟩
                    refine ⟨hE30, ?_⟩
                    replace hB := below_ext hB hE30 hsz
                    replace hb1 := hb1.ext hE30
                    replace hb2 := hb2.ext hE30
                    replace hb3 := hb3.ext hE30
                    replace hb4 := hb4.ext hE30
                    replace ho29 := own_ext ho29 hE30
                    replace hsz := Nat.le_trans hsz hE30.size
                    refine m_q rfl rfl (fun w' hC' => (q_indexAddr_arr1 Try.underlying101 Try.sizeOf3 rfl rfl (by omega) rfl).cast (ptr0 _ _)) ?_
                    refine m_last rfl rfl rfl (o_store1 (v := vint (minOf [((so rd R B la sg k).set k (sg4 rd R B la sg k)).getD k 0, (((so rd R B la sg k).set k (sg4 rd R B la sg k)).getD (((k : Int) - 1).toNat) 0) + 1])) (o := k) Try.sizeOf3 rfl rfl rfl rfl hb4 (by rw [List.length_map]; (try simp only [List.length_set]); have := so_len rd R B la sg k; omega) rfl ?_)
                    intro w31 hz31 hb4 hG31
                    rw [imap_set] at hb4
                    replace hB := below_upd hB hG31 hsz (by omega)
                    replace hsz : w.heap.size ≤ w31.heap.size := by rw [hz31]; exact hsz
                    replace hb1 := hb1.upd hG31 (by omega)
                    replace hb2 := hb2.upd hG31 (by omega)
                    replace hb3 := hb3.upd hG31 (by omega)
                    refine m_nil ?_
                    refine r_forget [(3, .int _ _), (4, .int _ _), (5, .pointer _), (6, .pointer _), (7, .pointer _), (10, .pointer _), (11, .int _ _), (12, .int _ _)] ⟨rfl, rfl, rfl, rfl, rfl, rfl, rfl, rfl, trivial⟩ (fun e32 => ?_)
                    exact hj19 () _ _ ⟨⟨rfl, rfl, rfl, rfl, rfl, rfl, rfl, rfl, trivial⟩, (blk_eq (sg5_yes hk41 (⟨by omega, hbq⟩)) hb4), hb1, hb2, hb3, hsz, hB⟩
                  · skip
                    try simp only [decide_eq_true_eq, decide_eq_false_iff_not, Bool.not_eq_true', Bool.not_eq_false', Bool.not_not, Bool.not_true, Bool.not_false, Bool.not_eq_true, Bool.not_eq_false, Int.not_lt, Int.not_le, Bool.and_eq_true, Bool.or_eq_true, Bool.and_eq_false_iff, Bool.or_eq_false_iff] at hc27
                    have hkm : ((k : Int) - 1).toNat = k - 1 := by omega
                    have hbq := hc27
                    rw [hkm] at hbq
                    refine r_skip ?_
                    exact hj19 () _ _ ⟨⟨rfl, rfl, rfl, rfl, rfl, rfl, rfl, rfl, trivial⟩, (blk_eq (sg5_no (rd := rd) (R := R) (B := B) (la := la) (sg := sg) (k := k) (by first | (intro h; omega) | exact fun h => hbq h.2)) hb4), hb1, hb2, hb3, hsz, hB⟩
                · skip
                  try simp only [decide_eq_true_eq, decide_eq_false_iff_not, Bool.not_eq_true', Bool.not_eq_false', Bool.not_not, Bool.not_true, Bool.not_false, Bool.not_eq_true, Bool.not_eq_false, Int.not_lt, Int.not_le, Bool.and_eq_true, Bool.or_eq_true, Bool.and_eq_false_iff, Bool.or_eq_false_iff] at hc25
                  refine l_q (q_skip rfl) ?_
                  refine l_q (q_skip rfl) ?_
                  refine l_q (q_skip rfl) ?_
                  refine l_q (q_skip rfl) ?_
                  refine l_q (q_skip rfl) ?_
                  refine l_q (q_skip rfl) ?_
                  refine l_q (q_pick_f (v := .bool _) rfl rfl rfl) ?_
                  refine l_nil ?_
                  refine r_forget [(3, .int _ _), (4, .int _ _), (5, .pointer _), (6, .pointer _), (7, .pointer _), (10, .pointer _), (11, .int _ _), (12, .int _ _), (116, .bool _)] ⟨rfl, rfl, rfl, rfl, rfl, rfl, rfl, rfl, rfl, trivial⟩ (fun e33 => ?_)
                  refine r_cond_f rfl ?_
                  refine r_skip ?_
                  exact hj19 () _ _ ⟨⟨rfl, rfl, rfl, rfl, rfl, rfl, rfl, rfl, trivial⟩, (blk_eq (sg5_no (rd := rd) (R := R) (B := B) (la := la) (sg := sg) (k := k) (by first | (intro h; omega) | exact fun h => hbq h.2)) hb4), hb1, hb2, hb3, hsz, hB⟩
            · intro hj18
              refine r_seq ?_
              refine r_region' ?_
              refine l_q (q_move (v := .int _ _) rfl rfl) ?_
              refine l_q (q_gtr rfl rfl rfl) ?_
              refine l_q (q_move (v := .bool _) rfl rfl) ?_
              refine l_part 79 rfl (fun hc34 => ?_) (fun hc34 => ?_)
              · skip
                try simp only [decide_eq_true_eq, decide_eq_false_iff_not, Bool.not_eq_true', Bool.not_eq_false', Bool.not_not, Bool.not_true, Bool.not_false, Bool.not_eq_true, Bool.not_eq_false, Int.not_lt, Int.not_le, Bool.and_eq_true, Bool.or_eq_true, Bool.and_eq_false_iff, Bool.or_eq_false_iff] at hc34
                refine l_q (q_move (v := .int _ _) rfl rfl) ?_
                refine l_q (q_eql rfl rfl rfl) ?_
                refine l_q (q_pick_t (v := .bool _) rfl rfl rfl) ?_
                refine l_q (q_move (v := .bool _) rfl rfl) ?_
                refine l_part 83 rfl (fun hc35 => ?_) (fun hc35 => ?_)
                · skip
                  try simp only [decide_eq_true_eq, decide_eq_false_iff_not, Bool.not_eq_true', Bool.not_eq_false', Bool.not_not, Bool.not_true, Bool.not_false, Bool.not_eq_true, Bool.not_eq_false, Int.not_lt, Int.not_le, Bool.and_eq_true, Bool.or_eq_true, Bool.and_eq_false_iff, Bool.or_eq_false_iff] at hc35
                  refine l_q (q_move (v := .int _ _) rfl rfl) ?_
                  refine l_q (q_eql rfl rfl rfl) ?_
                  refine l_q (q_pick_t (v := .bool _) rfl rfl rfl) ?_
                  refine l_q (q_move (v := .bool _) rfl rfl) ?_
                  refine l_part 87 rfl (fun hc36 => ?_) (fun hc36 => ?_)
                  · skip
                    try simp only [decide_eq_true_eq, decide_eq_false_iff_not, Bool.not_eq_true', Bool.not_eq_false', Bool.not_not, Bool.not_true, Bool.not_false, Bool.not_eq_true, Bool.not_eq_false, Int.not_lt, Int.not_le, Bool.and_eq_true, Bool.or_eq_true, Bool.and_eq_false_iff, Bool.or_eq_false_iff] at hc36
                    refine l_q (q_fieldAddr (o' := 1) rfl fld82_1 rfl) ?_
                    refine l_q (q_load Try.isAgg9 rfl ((hb1.has (o := 1) rfl)) rfl) ?_
                    refine l_q (q_move (v := .int _ _) rfl rfl) ?_
                    refine l_q (q_sub rfl rfl (by omega) rfl) ?_
                    refine l_q (q_index_str (c := (rd).getD ((k : Int) - 1).toNat 0) Try.underlying9 rfl rfl (by omega) (getD_some (by omega)) rfl) ?_
                    refine l_q (q_eql rfl rfl rfl) ?_
                    refine l_q (q_pick_t (v := .bool _) rfl rfl rfl) ?_
                    refine l_nil ?_
                    refine r_forget [(3, .int _ _), (4, .int _ _), (5, .pointer _), (6, .pointer _), (7, .pointer _), (10, .pointer _), (11, .int _ _), (12, .int _ _), (94, .bool _)] ⟨rfl, rfl, rfl, rfl, rfl, rfl, rfl, rfl, rfl, trivial⟩ (fun e37 => ?_)
                    refine r_cond rfl (fun hc38 => ?_) (fun hc38 => ?_)
                    · skip
                      try simp only [decide_eq_true_eq, decide_eq_false_iff_not, Bool.not_eq_true', Bool.not_eq_false', Bool.not_not, Bool.not_true, Bool.not_false, Bool.not_eq_true, Bool.not_eq_false, Int.not_lt, Int.not_le, Bool.and_eq_true, Bool.or_eq_true, Bool.and_eq_false_iff, Bool.or_eq_false_iff] at hc38
                      have hkm : ((k : Int) - 1).toNat = k - 1 := by omega
                      have hbq := hc38
                      rw [hkm] at hbq
                      refine r_draw ext_refl' ext_trans' [0, 1, 2, 3, 4, 5, 6, 7, 8, 9, 10, 11, 12] [9, 10, 12, 1012] 2 (by kernel_rfl) (by kernel_rfl) ?_
                      intro w39 _ hE39
                      replace hB := below_ext hB hE39 hsz
                      replace hb1 := hb1.ext hE39
                      replace hb2 := hb2.ext hE39
                      replace hb3 := hb3.ext hE39
                      replace hb4 := hb4.ext hE39
                      replace hsz := Nat.le_trans hsz hE39.size
                      refine m_q rfl rfl (fun w' hC' => q_move (v := .int _ _) rfl rfl) ?_
                      refine m_q rfl rfl (fun w' hC' => q_move (v := .int _ _) rfl rfl) ?_
                      refine m_q rfl rfl (fun w' hC' => (q_indexAddr_arr1 Try.underlying101 Try.sizeOf3 rfl rfl (by omega) rfl).cast (ptr0 _ _)) ?_
                      refine m_q rfl rfl (fun w' hC' => q_load Try.isAgg3 rfl (((hb4.has (o := k) (imap (by (try simp only [List.length_set]); have := so_len rd R B la sg k; omega))).ext hC')) rfl) ?_
                      refine m_q rfl rfl (fun w' hC' => q_move (v := .int _ _) rfl rfl) ?_
                      refine m_q rfl rfl (fun w' hC' => q_sub rfl rfl (by omega) rfl) ?_
                      refine m_q rfl rfl (fun w' hC' => (q_indexAddr_arr1 Try.underlying101 Try.sizeOf3 rfl rfl (by omega) rfl).cast (ptr0 _ _)) ?_
                      refine m_q rfl rfl (fun w' hC' => q_load Try.isAgg3 rfl (((hb3.has (o := ((k : Int) - 1).toNat) (imap (by omega))).ext hC')) rfl) ?_
                      refine m_q rfl rfl (fun w' hC' => q_add rfl rfl (by have := hBb ((k : Int) - 1).toNat; omega) rfl) ?_
                      refine m_o rfl rfl (o_buildSlice (el := 3) (cs := [vint (((so rd R B la sg k).set k (sg3 rd R B la sg k)).getD k 0), vint (((B).getD (((k : Int) - 1).toNat) 0) + 1)]) Try.underlying26 el3 (by decide) (by kernel_rfl) rfl (by decide) rfl ?_)
                      intro b40 w40 hzl40 hzr40 _ hb40 hE40 ho40
                      refine ⟨hE40, ?_⟩
                      have hne_b1_b40 : b1 ≠ b40 := by have := hb1.lt; omega
                      have hne_b2_b40 : b2 ≠ b40 := by have := hb2.lt; omega
                      have hne_b3_b40 : b3 ≠ b40 := by have := hb3.lt; omega
                      have hne_b4_b40 : b4 ≠ b40 := by have := hb4.lt; omega
                      have hbs_b40 : w.heap.size ≤ b40 := Nat.le_trans hsz hzl40
                      replace hB := below_ext hB hE40 hsz
                      replace hb1 := hb1.ext hE40
                      replace hb2 := hb2.ext hE40
                      replace hb3 := hb3.ext hE40
                      replace hb4 := hb4.ext hE40
                      replace hsz := Nat.le_trans hsz hE40.size
                      refine m_o rfl rfl (o_call Try.call77 rfl (minimum_ret _ _ [((so rd R B la sg k).set k (sg3 rd R B la sg k)).getD k 0, ((B).getD (((k : Int) - 1).toNat) 0) + 1] _ (Row.of_owns ho40) (by first | omega | simp) (by first | omega | simp)) rfl ?_)
                      rintro _ w41 ⟨rfl, hE41⟩
                      refine ⟨hE41, ?_⟩
                      replace hB := below_ext hB hE41 hsz
                      replace hb1 := hb1.ext hE41
                      replace hb2 := hb2.ext hE41
                      replace hb3 := hb3.ext hE41
                      replace hb4 := hb4.ext hE41
                      replace ho40 := own_ext ho40 hE41
                      replace hsz := Nat.le_trans hsz hE41.size
                      refine m_q rfl rfl (fun w' hC' => (q_indexAddr_arr1 Try.underlying101 Try.sizeOf3 rfl rfl (by omega) rfl).cast (ptr0 _ _)) ?_
                      refine m_last rfl rfl rfl (o_store1 (v := vint (minOf [((so rd R B la sg k).set k (sg3 rd R B la sg k)).getD k 0, ((B).getD (((k : Int) - 1).toNat) 0) + 1])) (o := k) Try.sizeOf3 rfl rfl rfl rfl hb4 (by rw [List.length_map]; (try simp only [List.length_set]); have := so_len rd R B la sg k; omega) rfl ?_)
                      intro w42 hz42 hb4 hG42
                      rw [imap_set] at hb4
                      replace hB := below_upd hB hG42 hsz (by omega)
                      replace hsz : w.heap.size ≤ w42.heap.size := by rw [hz42]; exact hsz
                      replace hb1 := hb1.upd hG42 (by omega)
                      replace hb2 := hb2.upd hG42 (by omega)
                      replace hb3 := hb3.upd hG42 (by omega)
                      refine m_nil ?_
                      refine r_forget [(3, .int _ _), (4, .int _ _), (5, .pointer _), (6, .pointer _), (7, .pointer _), (10, .pointer _), (11, .int _ _), (12, .int _ _)] ⟨rfl, rfl, rfl, rfl, rfl, rfl, rfl, rfl, trivial⟩ (fun e43 => ?_)
                      exact hj18 () _ _ ⟨⟨rfl, rfl, rfl, rfl, rfl, rfl, rfl, rfl, trivial⟩, (blk_eq (sg4_yes hk41 (⟨by omega, by assumption, by assumption, hbq⟩)) hb4), hb1, hb2, hb3, hsz, hB⟩
                    · skip
                      try simp only [decide_eq_true_eq, decide_eq_false_iff_not, Bool.not_eq_true', Bool.not_eq_false', Bool.not_not, Bool.not_true, Bool.not_false, Bool.not_eq_true, Bool.not_eq_false, Int.not_lt, Int.not_le, Bool.and_eq_true, Bool.or_eq_true, Bool.and_eq_false_iff, Bool.or_eq_false_iff] at hc38
                      have hkm : ((k : Int) - 1).toNat = k - 1 := by omega
                      have hbq := hc38
                      rw [hkm] at hbq
                      refine r_skip ?_
                      exact hj18 () _ _ ⟨⟨rfl, rfl, rfl, rfl, rfl, rfl, rfl, rfl, trivial⟩, (blk_eq (sg4_no (rd := rd) (R := R) (B := B) (la := la) (sg := sg) (k := k) (by first | (intro h; omega) | exact fun h => hbq h.2.2.2 | exact fun h => absurd h.2.1 (by assumption) | exact fun h => absurd h.2.2.1 (by assumption))) hb4), hb1, hb2, hb3, hsz, hB⟩
                  · skip
                    try simp only [decide_eq_true_eq, decide_eq_false_iff_not, Bool.not_eq_true', Bool.not_eq_false', Bool.not_not, Bool.not_true, Bool.not_false, Bool.not_eq_true, Bool.not_eq_false, Int.not_lt, Int.not_le, Bool.and_eq_true, Bool.or_eq_true, Bool.and_eq_false_iff, Bool.or_eq_false_iff] at hc36
                    refine l_q (q_skip rfl) ?_
                    refine l_q (q_skip rfl) ?_
                    refine l_q (q_skip rfl) ?_
                    refine l_q (q_skip rfl) ?_
                    refine l_q (q_skip rfl) ?_
                    refine l_q (q_skip rfl) ?_
                    refine l_q (q_pick_f (v := .bool _) rfl rfl rfl) ?_
                    refine l_nil ?_
                    refine r_forget [(3, .int _ _), (4, .int _ _), (5, .pointer _), (6, .pointer _), (7, .pointer _), (10, .pointer _), (11, .int _ _), (12, .int _ _), (94, .bool _)] ⟨rfl, rfl, rfl, rfl, rfl, rfl, rfl, rfl, rfl, trivial⟩ (fun e44 => ?_)
                    refine r_cond_f rfl ?_
                    refine r_skip ?_
                    exact hj18 () _ _ ⟨⟨rfl, rfl, rfl, rfl, rfl, rfl, rfl, rfl, trivial⟩, (blk_eq (sg4_no (rd := rd) (R := R) (B := B) (la := la) (sg := sg) (k := k) (by first | (intro h; omega) | exact fun h => hbq h.2.2.2 | exact fun h => absurd h.2.1 (by assumption) | exact fun h => absurd h.2.2.1 (by assumption))) hb4), hb1, hb2, hb3, hsz, hB⟩
                · skip
                  try simp only [decide_eq_true_eq, decide_eq_false_iff_not, Bool.not_eq_true', Bool.not_eq_false', Bool.not_not, Bool.not_true, Bool.not_false, Bool.not_eq_true, Bool.not_eq_false, Int.not_lt, Int.not_le, Bool.and_eq_true, Bool.or_eq_true, Bool.and_eq_false_iff, Bool.or_eq_false_iff] at hc35
                  refine l_q (q_skip rfl) ?_
                  refine l_q (q_skip rfl) ?_
                  refine l_q (q_pick_f (v := .bool _) rfl rfl rfl) ?_
                  refine l_q (q_move (v := .bool _) rfl rfl) ?_
                  refine l_q (q_skip rfl) ?_
                  refine l_q (q_skip rfl) ?_
                  refine l_q (q_skip rfl) ?_
                  refine l_q (q_skip rfl) ?_
                  refine l_q (q_skip rfl) ?_
                  refine l_q (q_skip rfl) ?_
                  refine l_q (q_pick_f (v := .bool _) rfl rfl rfl) ?_
                  refine l_nil ?_
                  refine r_forget [(3, .int _ _), (4, .int _ _), (5, .pointer _), (6, .pointer _), (7, .pointer _), (10, .pointer _), (11, .int _ _), (12, .int _ _), (94, .bool _)] ⟨rfl, rfl, rfl, rfl, rfl, rfl, rfl, rfl, rfl, trivial⟩ (fun e45 => ?_)
                  refine r_cond_f rfl ?_
                  refine r_skip ?_
                  exact hj18 () _ _ ⟨⟨rfl, rfl, rfl, rfl, rfl, rfl, rfl, rfl, trivial⟩, (blk_eq (sg4_no (rd := rd) (R := R) (B := B) (la := la) (sg := sg) (k := k) (by first | (intro h; omega) | exact fun h => hbq h.2.2.2 | exact fun h => absurd h.2.1 (by assumption) | exact fun h => absurd h.2.2.1 (by assumption))) hb4), hb1, hb2, hb3, hsz, hB⟩
              · skip
                try simp only [decide_eq_true_eq, decide_eq_false_iff_not, Bool.not_eq_true', Bool.not_eq_false', Bool.not_not, Bool.not_true, Bool.not_false, Bool.not_eq_true, Bool.not_eq_false, Int.not_lt, Int.not_le, Bool.and_eq_true, Bool.or_eq_true, Bool.and_eq_false_iff, Bool.or_eq_false_iff] at hc34
                refine l_q (q_skip rfl) ?_
                refine l_q (q_skip rfl) ?_
                refine l_q (q_pick_f (v := .bool _) rfl rfl rfl) ?_
                refine l_q (q_move (v := .bool _) rfl rfl) ?_
                refine l_q (q_skip rfl) ?_
                refine l_q (q_skip rfl) ?_
                refine l_q (q_pick_f (v := .bool _) rfl rfl rfl) ?_
                refine l_q (q_move (v := .bool _) rfl rfl) ?_
                refine l_q (q_skip rfl) ?_
                refine l_q (q_skip rfl) ?_
                refine l_q (q_skip rfl) ?_
                refine l_q (q_skip rfl) ?_
                refine l_q (q_skip rfl) ?_
                refine l_q (q_skip rfl) ?_
                refine l_q (q_pick_f (v := .bool _) rfl rfl rfl) ?_
                refine l_nil ?_
                refine r_forget [(3, .int _ _), (4, .int _ _), (5, .pointer _), (6, .pointer _), (7, .pointer _), (10, .pointer _), (11, .int _ _), (12, .int _ _), (94, .bool _)] ⟨rfl, rfl, rfl, rfl, rfl, rfl, rfl, rfl, rfl, trivial⟩ (fun e46 => ?_)
                refine r_cond_f rfl ?_
                refine r_skip ?_
                exact hj18 () _ _ ⟨⟨rfl, rfl, rfl, rfl, rfl, rfl, rfl, rfl, trivial⟩, (blk_eq (sg4_no (rd := rd) (R := R) (B := B) (la := la) (sg := sg) (k := k) (by first | (intro h; omega) | exact fun h => hbq h.2.2.2 | exact fun h => absurd h.2.1 (by assumption) | exact fun h => absurd h.2.2.1 (by assumption))) hb4), hb1, hb2, hb3, hsz, hB⟩
          · intro hj17
            refine r_seq ?_
            refine r_region' ?_
            refine l_q (q_move (v := .int _ _) rfl rfl) ?_
            refine l_q (q_gtr rfl rfl rfl) ?_
            refine l_q (q_move (v := .bool _) rfl rfl) ?_
            refine l_part 52 rfl (fun hc47 => ?_) (fun hc47 => ?_)
            · skip
              try simp only [decide_eq_true_eq, decide_eq_false_iff_not, Bool.not_eq_true', Bool.not_eq_false', Bool.not_not, Bool.not_true, Bool.not_false, Bool.not_eq_true, Bool.not_eq_false, Int.not_lt, Int.not_le, Bool.and_eq_true, Bool.or_eq_true, Bool.and_eq_false_iff, Bool.or_eq_false_iff] at hc47
              refine l_q (q_move (v := .int _ _) rfl rfl) ?_
              refine l_q (q_eql rfl rfl rfl) ?_
              refine l_q (q_pick_t (v := .bool _) rfl rfl rfl) ?_
              refine l_q (q_move (v := .bool _) rfl rfl) ?_
              refine l_part 56 rfl (fun hc48 => ?_) (fun hc48 => ?_)
              · skip
                try simp only [decide_eq_true_eq, decide_eq_false_iff_not, Bool.not_eq_true', Bool.not_eq_false', Bool.not_not, Bool.not_true, Bool.not_false, Bool.not_eq_true, Bool.not_eq_false, Int.not_lt, Int.not_le, Bool.and_eq_true, Bool.or_eq_true, Bool.and_eq_false_iff, Bool.or_eq_false_iff] at hc48
                refine l_q (q_fieldAddr (o' := 1) rfl fld82_1 rfl) ?_
                refine l_q (q_load Try.isAgg9 rfl ((hb1.has (o := 1) rfl)) rfl) ?_
                refine l_q (q_move (v := .int _ _) rfl rfl) ?_
                refine l_q (q_sub rfl rfl (by omega) rfl) ?_
                refine l_q (q_move (v := .int _ _) rfl rfl) ?_
                refine l_q (q_slice_str Try.underlying9 rfl rfl rfl (by omega) rfl) ?_
                refine l_q (q_eql_str rfl rfl rfl) ?_
                refine l_q (q_pick_t (v := .bool _) rfl rfl rfl) ?_
                refine l_nil ?_
                refine r_forget [(3, .int _ _), (4, .int _ _), (5, .pointer _), (6, .pointer _), (7, .pointer _), (10, .pointer _), (11, .int _ _), (12, .int _ _), (64, .bool _)] ⟨rfl, rfl, rfl, rfl, rfl, rfl, rfl, rfl, rfl, trivial⟩ (fun e49 => ?_)
                refine r_cond rfl (fun hc50 => ?_) (fun hc50 => ?_)
                · skip
                  try simp only [decide_eq_true_eq, decide_eq_false_iff_not, Bool.not_eq_true', Bool.not_eq_false', Bool.not_not, Bool.not_true, Bool.not_false, Bool.not_eq_true, Bool.not_eq_false, Int.not_lt, Int.not_le, Bool.and_eq_true, Bool.or_eq_true, Bool.and_eq_false_iff, Bool.or_eq_false_iff] at hc50
                  have hkm2 : ((k : Int) - 2).toNat = k - 2 := by omega
                  have hbq := hc50
                  rw [hkm2] at hbq
                  refine r_draw ext_refl' ext_trans' [0, 1, 2, 3, 4, 5, 6, 7, 8, 9, 10, 11, 12] [9, 10, 12, 1012] 2 (by kernel_rfl) (by kernel_rfl) ?_
                  intro w51 _ hE51
                  replace hB := below_ext hB hE51 hsz
                  replace hb1 := hb1.ext hE51
                  replace hb2 := hb2.ext hE51
                  replace hb3 := hb3.ext hE51
                  replace hb4 := hb4.ext hE51
                  replace hsz := Nat.le_trans hsz hE51.size
                  refine m_q rfl rfl (fun w' hC' => q_move (v := .int _ _) rfl rfl) ?_
                  refine m_q rfl rfl (fun w' hC' => q_move (v := .int _ _) rfl rfl) ?_
                  refine m_q rfl rfl (fun w' hC' => (q_indexAddr_arr1 Try.underlying101 Try.sizeOf3 rfl rfl (by omega) rfl).cast (ptr0 _ _)) ?_
                  refine m_q rfl rfl (fun w' hC' => q_load Try.isAgg3 rfl (((hb4.has (o := k) (imap (by (try simp only [List.length_set]); have := so_len rd R B la sg k; omega))).ext hC')) rfl) ?_
                  refine m_q rfl rfl (fun w' hC' => q_move (v := .int _ _) rfl rfl) ?_
                  refine m_q rfl rfl (fun w' hC' => q_sub rfl rfl (by omega) rfl) ?_
                  refine m_q rfl rfl (fun w' hC' => (q_indexAddr_arr1 Try.underlying101 Try.sizeOf3 rfl rfl (by omega) rfl).cast (ptr0 _ _)) ?_
                  refine m_q rfl rfl (fun w' hC' => q_load Try.isAgg3 rfl (((hb2.has (o := ((k : Int) - 2).toNat) (imap (by omega))).ext hC')) rfl) ?_
                  refine m_q rfl rfl (fun w' hC' => q_add rfl rfl (by have := hRb ((k : Int) - 2).toNat; omega) rfl) ?_
                  refine m_o rfl rfl (o_buildSlice (el := 3) (cs := [vint (((so rd R B la sg k).set k (sg2 rd R B la sg k)).getD k 0), vint (((R).getD (((k : Int) - 2).toNat) 0) + 1)]) Try.underlying26 el3 (by decide) (by kernel_rfl) rfl (by decide) rfl ?_)
                  intro b52 w52 hzl52 hzr52 _ hb52 hE52 ho52
                  refine ⟨hE52, ?_⟩
                  have hne_b1_b52 : b1 ≠ b52 := by have := hb1.lt; omega
                  have hne_b2_b52 : b2 ≠ b52 := by have := hb2.lt; omega
                  have hne_b3_b52 : b3 ≠ b52 := by have := hb3.lt; omega
                  have hne_b4_b52 : b4 ≠ b52 := by have := hb4.lt; omega
                  have hbs_b52 : w.heap.size ≤ b52 := Nat.le_trans hsz hzl52
                  replace hB := below_ext hB hE52 hsz
                  replace hb1 := hb1.ext hE52
                  replace hb2 := hb2.ext hE52
                  replace hb3 := hb3.ext hE52
                  replace hb4 := hb4.ext hE52
                  replace hsz := Nat.le_trans hsz hE52.size
                  refine m_o rfl rfl (o_call Try.call77 rfl (minimum_ret _ _ [((so rd R B la sg k).set k (sg2 rd R B la sg k)).getD k 0, ((R).getD (((k : Int) - 2).toNat) 0) + 1] _ (Row.of_owns ho52) (by first | omega | simp) (by first | omega | simp)) rfl ?_)
                  rintro _ w53 ⟨rfl, hE53⟩
                  refine ⟨hE53, ?_⟩
                  replace hB := below_ext hB hE53 hsz
                  replace hb1 := hb1.ext hE53
                  replace hb2 := hb2.ext hE53
                  replace hb3 := hb3.ext hE53
                  replace hb4 := hb4.ext hE53
                  replace ho52 := own_ext ho52 hE53
                  replace hsz := Nat.le_trans hsz hE53.size
                  refine m_q rfl rfl (fun w' hC' => (q_indexAddr_arr1 Try.underlying101 Try.sizeOf3 rfl rfl (by omega) rfl).cast (ptr0 _ _)) ?_
                  refine m_last rfl rfl rfl (o_store1 (v := vint (minOf [((so rd R B la sg k).set k (sg2 rd R B la sg k)).getD k 0, ((R).getD (((k : Int) - 2).toNat) 0) + 1])) (o := k) Try.sizeOf3 rfl rfl rfl rfl hb4 (by rw [List.length_map]; (try simp only [List.length_set]); have := so_len rd R B la sg k; omega) rfl ?_)
                  intro w54 hz54 hb4 hG54
                  rw [imap_set] at hb4
                  replace hB := below_upd hB hG54 hsz (by omega)
                  replace hsz : w.heap.size ≤ w54.heap.size := by rw [hz54]; exact hsz
                  replace hb1 := hb1.upd hG54 (by omega)
                  replace hb2 := hb2.upd hG54 (by omega)
                  replace hb3 := hb3.upd hG54 (by omega)
                  refine m_nil ?_
                  refine r_forget [(3, .int _ _), (4, .int _ _), (5, .pointer _), (6, .pointer _), (7, .pointer _), (10, .pointer _), (11, .int _ _), (12, .int _ _)] ⟨rfl, rfl, rfl, rfl, rfl, rfl, rfl, rfl, trivial⟩ (fun e55 => ?_)
                  exact hj17 () _ _ ⟨⟨rfl, rfl, rfl, rfl, rfl, rfl, rfl, rfl, trivial⟩, (blk_eq (sg3_yes hk41 (⟨by omega, by assumption, hbq⟩)) hb4), hb1, hb2, hb3, hsz, hB⟩
                · skip
                  try simp only [decide_eq_true_eq, decide_eq_false_iff_not, Bool.not_eq_true', Bool.not_eq_false', Bool.not_not, Bool.not_true, Bool.not_false, Bool.not_eq_true, Bool.not_eq_false, Int.not_lt, Int.not_le, Bool.and_eq_true, Bool.or_eq_true, Bool.and_eq_false_iff, Bool.or_eq_false_iff] at hc50
                  have hkm2 : ((k : Int) - 2).toNat = k - 2 := by omega
                  have hbq := hc50
                  rw [hkm2] at hbq
                  refine r_skip ?_
                  exact hj17 () _ _ ⟨⟨rfl, rfl, rfl, rfl, rfl, rfl, rfl, rfl, trivial⟩, (blk_eq (sg3_no (rd := rd) (R := R) (B := B) (la := la) (sg := sg) (k := k) (by first | (intro h; omega) | exact fun h => hbq h.2.2 | exact fun h => absurd h.2.1 (by assumption))) hb4), hb1, hb2, hb3, hsz, hB⟩
              · skip
                try simp only [decide_eq_true_eq, decide_eq_false_iff_not, Bool.not_eq_true', Bool.not_eq_false', Bool.not_not, Bool.not_true, Bool.not_false, Bool.not_eq_true, Bool.not_eq_false, Int.not_lt, Int.not_le, Bool.and_eq_true, Bool.or_eq_true, Bool.and_eq_false_iff, Bool.or_eq_false_iff] at hc48
                refine l_q (q_skip rfl) ?_
                refine l_q (q_skip rfl) ?_
                refine l_q (q_skip rfl) ?_
                refine l_q (q_skip rfl) ?_
                refine l_q (q_skip rfl) ?_
                refine l_q (q_skip rfl) ?_
                refine l_q (q_skip rfl) ?_
                refine l_q (q_pick_f (v := .bool _) rfl rfl rfl) ?_
                refine l_nil ?_
                refine r_forget [(3, .int _ _), (4, .int _ _), (5, .pointer _), (6, .pointer _), (7, .pointer _), (10, .pointer _), (11, .int _ _), (12, .int _ _), (64, .bool _)] ⟨rfl, rfl, rfl, rfl, rfl, rfl, rfl, rfl, rfl, trivial⟩ (fun e56 => ?_)
                refine r_cond_f rfl ?_
                refine r_skip ?_
                exact hj17 () _ _ ⟨⟨rfl, rfl, rfl, rfl, rfl, rfl, rfl, rfl, trivial⟩, (blk_eq (sg3_no (rd := rd) (R := R) (B := B) (la := la) (sg := sg) (k := k) (by first | (intro h; omega) | exact fun h => hbq h.2.2 | exact fun h => absurd h.2.1 (by assumption))) hb4), hb1, hb2, hb3, hsz, hB⟩
            · skip
              try simp only [decide_eq_true_eq, decide_eq_false_iff_not, Bool.not_eq_true', Bool.not_eq_false', Bool.not_not, Bool.not_true, Bool.not_false, Bool.not_eq_true, Bool.not_eq_false, Int.not_lt, Int.not_le, Bool.and_eq_true, Bool.or_eq_true, Bool.and_eq_false_iff, Bool.or_eq_false_iff] at hc47
              refine l_q (q_skip rfl) ?_
              refine l_q (q_skip rfl) ?_
              refine l_q (q_pick_f (v := .bool _) rfl rfl rfl) ?_
              refine l_q (q_move (v := .bool _) rfl rfl) ?_
              refine l_q (q_skip rfl) ?_
              refine l_q (q_skip rfl) ?_
              refine l_q (q_skip rfl) ?_
              refine l_q (q_skip rfl) ?_
              refine l_q (q_skip rfl) ?_
              refine l_q (q_skip rfl) ?_
              refine l_q (q_skip rfl) ?_
              refine l_q (q_pick_f (v := .bool _) rfl rfl rfl) ?_
              refine l_nil ?_
              refine r_forget [(3, .int _ _), (4, .int _ _), (5, .pointer _), (6, .pointer _), (7, .pointer _), (10, .pointer _), (11, .int _ _), (12, .int _ _), (64, .bool _)] ⟨rfl, rfl, rfl, rfl, rfl, rfl, rfl, rfl, rfl, trivial⟩ (fun e57 => ?_)
              refine r_cond_f rfl ?_
              refine r_skip ?_
              exact hj17 () _ _ ⟨⟨rfl, rfl, rfl, rfl, rfl, rfl, rfl, rfl, trivial⟩, (blk_eq (sg3_no (rd := rd) (R := R) (B := B) (la := la) (sg := sg) (k := k) (by first | (intro h; omega) | exact fun h => hbq h.2.2 | exact fun h => absurd h.2.1 (by assumption))) hb4), hb1, hb2, hb3, hsz, hB⟩
        · intro hj16
          refine r_seq ?_
          refine r_region' ?_
          refine l_q (q_move (v := .int _ _) rfl rfl) ?_
          refine l_q (q_gtr rfl rfl rfl) ?_
          refine l_q (q_move (v := .bool _) rfl rfl) ?_
          refine l_part 30 rfl (fun hc58 => ?_) (fun hc58 => ?_)
          · skip
            try simp only [decide_eq_true_eq, decide_eq_false_iff_not, Bool.not_eq_true', Bool.not_eq_false', Bool.not_not, Bool.not_true, Bool.not_false, Bool.not_eq_true, Bool.not_eq_false, Int.not_lt, Int.not_le, Bool.and_eq_true, Bool.or_eq_true, Bool.and_eq_false_iff, Bool.or_eq_false_iff] at hc58
            refine l_q (q_fieldAddr (o' := 1) rfl fld82_1 rfl) ?_
            refine l_q (q_load Try.isAgg9 rfl ((hb1.has (o := 1) rfl)) rfl) ?_
            refine l_q (q_move (v := .int _ _) rfl rfl) ?_
            refine l_q (q_sub rfl rfl (by omega) rfl) ?_
            refine l_q (q_index_str (c := (rd).getD ((k : Int) - 1).toNat 0) Try.underlying9 rfl rfl (by omega) (getD_some (by omega)) rfl) ?_
            refine l_q (q_move (v := .int _ _) rfl rfl) ?_
            refine l_q (q_eql rfl rfl rfl) ?_
            refine l_q (q_pick_t (v := .bool _) rfl rfl rfl) ?_
            refine l_nil ?_
            refine r_forget [(3, .int _ _), (4, .int _ _), (5, .pointer _), (6, .pointer _), (7, .pointer _), (10, .pointer _), (11, .int _ _), (12, .int _ _), (38, .bool _)] ⟨rfl, rfl, rfl, rfl, rfl, rfl, rfl, rfl, rfl, trivial⟩ (fun e59 => ?_)
            refine r_cond rfl (fun hc60 => ?_) (fun hc60 => ?_)
            · skip
              try simp only [decide_eq_true_eq, decide_eq_false_iff_not, Bool.not_eq_true', Bool.not_eq_false', Bool.not_not, Bool.not_true, Bool.not_false, Bool.not_eq_true, Bool.not_eq_false, Int.not_lt, Int.not_le, Bool.and_eq_true, Bool.or_eq_true, Bool.and_eq_false_iff, Bool.or_eq_false_iff] at hc60
              have hkm : ((k : Int) - 1).toNat = k - 1 := by omega
              have hbq := hc60
              rw [hkm] at hbq
              refine r_draw ext_refl' ext_trans' [0, 1, 2, 3, 4, 5, 6, 7, 8, 9, 10, 11] [8, 9, 11, 1011] 2 (by kernel_rfl) (by kernel_rfl) ?_
              intro w61 _ hE61
              replace hB := below_ext hB hE61 hsz
              replace hb1 := hb1.ext hE61
              replace hb2 := hb2.ext hE61
              replace hb3 := hb3.ext hE61
              replace hb4 := hb4.ext hE61
              replace hsz := Nat.le_trans hsz hE61.size
              refine m_q rfl rfl (fun w' hC' => q_move (v := .int _ _) rfl rfl) ?_
              refine m_q rfl rfl (fun w' hC' => q_move (v := .int _ _) rfl rfl) ?_
              refine m_q rfl rfl (fun w' hC' => (q_indexAddr_arr1 Try.underlying101 Try.sizeOf3 rfl rfl (by omega) rfl).cast (ptr0 _ _)) ?_
              refine m_q rfl rfl (fun w' hC' => q_load Try.isAgg3 rfl (((hb4.has (o := k) (imap (by (try simp only [List.length_set]); have := so_len rd R B la sg k; omega))).ext hC')) rfl) ?_
              refine m_q rfl rfl (fun w' hC' => q_move (v := .int _ _) rfl rfl) ?_
              refine m_q rfl rfl (fun w' hC' => q_sub rfl rfl (by omega) rfl) ?_
              refine m_q rfl rfl (fun w' hC' => (q_indexAddr_arr1 Try.underlying101 Try.sizeOf3 rfl rfl (by omega) rfl).cast (ptr0 _ _)) ?_
              refine m_q rfl rfl (fun w' hC' => q_load Try.isAgg3 rfl (((hb2.has (o := ((k : Int) - 1).toNat) (imap (by omega))).ext hC')) rfl) ?_
              refine m_o rfl rfl (o_buildSlice (el := 3) (cs := [vint ((((so rd R B la sg k).set k 1048576).set k (((R).getD k 0) + 1)).getD k 0), vint ((R).getD (((k : Int) - 1).toNat) 0)]) Try.underlying26 el3 (by decide) (by kernel_rfl) rfl (by decide) rfl ?_)
              intro b62 w62 hzl62 hzr62 _ hb62 hE62 ho62
              refine ⟨hE62, ?_⟩
              have hne_b1_b62 : b1 ≠ b62 := by have := hb1.lt; omega
              have hne_b2_b62 : b2 ≠ b62 := by have := hb2.lt; omega
              have hne_b3_b62 : b3 ≠ b62 := by have := hb3.lt; omega
              have hne_b4_b62 : b4 ≠ b62 := by have := hb4.lt; omega
              have hbs_b62 : w.heap.size ≤ b62 := Nat.le_trans hsz hzl62
              replace hB := below_ext hB hE62 hsz
              replace hb1 := hb1.ext hE62
              replace hb2 := hb2.ext hE62
              replace hb3 := hb3.ext hE62
              replace hb4 := hb4.ext hE62
              replace hsz := Nat.le_trans hsz hE62.size
              refine m_o rfl rfl (o_call Try.call77 rfl (minimum_ret _ _ [(((so rd R B la sg k).set k 1048576).set k (((R).getD k 0) + 1)).getD k 0, (R).getD (((k : Int) - 1).toNat) 0] _ (Row.of_owns ho62) (by first | omega | simp) (by first | omega | simp)) rfl ?_)
              rintro _ w63 ⟨rfl, hE63⟩
              refine ⟨hE63, ?_⟩
              replace hB := below_ext hB hE63 hsz
              replace hb1 := hb1.ext hE63
              replace hb2 := hb2.ext hE63
              replace hb3 := hb3.ext hE63
              replace hb4 := hb4.ext hE63
              replace ho62 := own_ext ho62 hE63
              replace hsz := Nat.le_trans hsz hE63.size
              refine m_q rfl rfl (fun w' hC' => (q_indexAddr_arr1 Try.underlying101 Try.sizeOf3 rfl rfl (by omega) rfl).cast (ptr0 _ _)) ?_
              refine m_last rfl rfl rfl (o_store1 (v := vint (minOf [(((so rd R B la sg k).set k 1048576).set k (((R).getD k 0) + 1)).getD k 0, (R).getD (((k : Int) - 1).toNat) 0])) (o := k) Try.sizeOf3 rfl rfl rfl rfl hb4 (by rw [List.length_map]; (try simp only [List.length_set]); have := so_len rd R B la sg k; omega) rfl ?_)
              intro w64 hz64 hb4 hG64
              rw [imap_set] at hb4
              replace hB := below_upd hB hG64 hsz (by omega)
              replace hsz : w.heap.size ≤ w64.heap.size := by rw [hz64]; exact hsz
              replace hb1 := hb1.upd hG64 (by omega)
              replace hb2 := hb2.upd hG64 (by omega)
              replace hb3 := hb3.upd hG64 (by omega)
              refine m_nil ?_
              refine r_forget [(3, .int _ _), (4, .int _ _), (5, .pointer _), (6, .pointer _), (7, .pointer _), (10, .pointer _), (11, .int _ _), (12, .int _ _)] ⟨rfl, rfl, rfl, rfl, rfl, rfl, rfl, rfl, trivial⟩ (fun e65 => ?_)
              exact hj16 () _ _ ⟨⟨rfl, rfl, rfl, rfl, rfl, rfl, rfl, rfl, trivial⟩, (blk_eq (sg2_yes hk41 (⟨by omega, hbq⟩)) hb4), hb1, hb2, hb3, hsz, hB⟩
            · skip
              try simp only [decide_eq_true_eq, decide_eq_false_iff_not, Bool.not_eq_true', Bool.not_eq_false', Bool.not_not, Bool.not_true, Bool.not_false, Bool.not_eq_true, Bool.not_eq_false, Int.not_lt, Int.not_le, Bool.and_eq_true, Bool.or_eq_true, Bool.and_eq_false_iff, Bool.or_eq_false_iff] at hc60
              have hkm : ((k : Int) - 1).toNat = k - 1 := by omega
              have hbq := hc60
              rw [hkm] at hbq
              refine r_skip ?_
              exact hj16 () _ _ ⟨⟨rfl, rfl, rfl, rfl, rfl, rfl, rfl, rfl, trivial⟩, (blk_eq (sg2_no (rd := rd) (R := R) (B := B) (la := la) (sg := sg) (k := k) (by first | (intro h; omega) | exact fun h => hbq h.2)) hb4), hb1, hb2, hb3, hsz, hB⟩
          · skip
            try simp only [decide_eq_true_eq, decide_eq_false_iff_not, Bool.not_eq_true', Bool.not_eq_false', Bool.not_not, Bool.not_true, Bool.not_false, Bool.not_eq_true, Bool.not_eq_false, Int.not_lt, Int.not_le, Bool.and_eq_true, Bool.or_eq_true, Bool.and_eq_false_iff, Bool.or_eq_false_iff] at hc58
            refine l_q (q_skip rfl) ?_
            refine l_q (q_skip rfl) ?_
            refine l_q (q_skip rfl) ?_
            refine l_q (q_skip rfl) ?_
            refine l_q (q_skip rfl) ?_
            refine l_q (q_skip rfl) ?_
            refine l_q (q_skip rfl) ?_
            refine l_q (q_pick_f (v := .bool _) rfl rfl rfl) ?_
            refine l_nil ?_
            refine r_forget [(3, .int _ _), (4, .int _ _), (5, .pointer _), (6, .pointer _), (7, .pointer _), (10, .pointer _), (11, .int _ _), (12, .int _ _), (38, .bool _)] ⟨rfl, rfl, rfl, rfl, rfl, rfl, rfl, rfl, rfl, trivial⟩ (fun e66 => ?_)
            refine r_cond_f rfl ?_
            refine r_skip ?_
            exact hj16 () _ _ ⟨⟨rfl, rfl, rfl, rfl, rfl, rfl, rfl, rfl, trivial⟩, (blk_eq (sg2_no (rd := rd) (R := R) (B := B) (la := la) (sg := sg) (k := k) (by first | (intro h; omega) | exact fun h => hbq h.2)) hb4), hb1, hb2, hb3, hsz, hB⟩
    · skip
      try simp only [decide_eq_true_eq, decide_eq_false_iff_not, Bool.not_eq_true', Bool.not_eq_false', Bool.not_not, Bool.not_true, Bool.not_false, Bool.not_eq_true, Bool.not_eq_false, Int.not_lt, Int.not_le, Bool.and_eq_true, Bool.or_eq_true, Bool.and_eq_false_iff, Bool.or_eq_false_iff] at hc7
      refine r_exit rfl ?_
      refine r_seq ?_
      refine r_region' ?_
      refine l_q (q_load_agg (n := 41) Try.isAgg101 Try.sizeOf101 rfl ((hb4.cells0)) (by (try simp only [List.length_map, List.length_set]); exact so_len _ _ _ _ _ _) rfl) ?_
      refine l_o (o_store_all (cs' := (so rd R B la sg k).map vint) Try.sizeOf101 rfl rfl hb4 (by (try simp only [List.length_map, List.length_set]); exact so_len _ _ _ _ _ _) (by (try simp only [List.length_map, List.length_set]); exact so_len _ _ _ _ _ _) (all_one_map _ _ (fun _ => rfl)) rfl ?_)
      intro w67 hz67 hb4 hG67
      replace hB := below_upd hB hG67 hsz (by omega)
      replace hsz : w.heap.size ≤ w67.heap.size := by rw [hz67]; exact hsz
      replace hb1 := hb1.upd hG67 (by omega)
      replace hb2 := hb2.upd hG67 (by omega)
      replace hb3 := hb3.upd hG67 (by omega)
      refine l_nil ?_
      refine r_forget [(10, .pointer _)] ⟨rfl, trivial⟩ (fun e68 => ?_)
      refine r_ret_ (vs := [.agg _]) rfl Try.func76 rfl (.nil _) ⟨⟨_, _, rfl, run_loadVarA Try.isAgg101 Try.sizeOf101 (hb4.cells0) (by (try simp only [List.length_map, List.length_set]); exact so_len _ _ _ _ _ _)⟩, trivial⟩ ?_
      have hk41 : k = 41 := by omega
      subst hk41
      exact ⟨rfl, Ext.of_below hB⟩
end Go.Proofs.Ytfbjllabgkabkaa
