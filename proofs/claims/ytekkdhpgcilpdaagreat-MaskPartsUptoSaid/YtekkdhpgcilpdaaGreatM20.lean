/- Contracts. -/
import Derived.Test.YtekkdhpgcilpdaaGreatM19
set_option linter.unusedVariables false
set_option linter.unusedSimpArgs false
namespace Go.Proofs.YtekkdhpgcilpdaaGreat
open Go Go.RowKit Go.Gv Go.Fl
/-! ### Earlier seen, later asked, never seen -/
section
variable {l x : Lg} {b b2 : Int} {r : RC} {k : Nat}
end
/-! ### Other orders -/
section
variable {l : Lg} {i r : Nat} {fal : Bool}
end
/-! ### Parts -/
theorem part_tail {t : List Int} (h : 1 < t.length) : IsSub (t.drop 1) t := by
  refine ⟨by rw [List.length_drop]; omega, 1, by rw [List.length_drop]; omega, ?_⟩
  unfold subOf
  rw [List.length_drop, show 1 + (t.length - 1) = t.length by omega, List.take_length]
theorem part_init {t : List Int} (h : 1 < t.length) : IsSub (t.take (t.length - 1)) t := by
  have hl : (t.take (t.length - 1)).length = t.length - 1 := by rw [List.length_take]; omega
  refine ⟨by omega, 0, by omega, ?_⟩
  unfold subOf
  rw [hl, Nat.zero_add]; rfl
theorem texts_sub {l : Lg} {b : Int} {t u : List Int} (h : IsSub u t) (ht : t ∈ textsL l b) : u ∈ textsL l b := by
  rw [mem_texts] at ht ⊢
  obtain ⟨s, h1, h2, h3⟩ := ht
  exact ⟨s, h1, h2, sub_sub_ h h3⟩
theorem texts_at {l : Lg} {b : Int} {t : List Int} (ht : t ∈ textsL l b) : ∃ k, k < l.J.length ∧ (l.J.getD k sn0).h < b ∧ IsSub t (l.J.getD k sn0).xs := by
  obtain ⟨s, h1, h2, h3⟩ := mem_texts.1 ht
  obtain ⟨k, hk, rfl⟩ := List.mem_iff_getElem.1 h1
  have e : l.J.getD k sn0 = l.J[k] := by rw [List.getD_eq_getElem?_getD, List.getElem?_eq_getElem hk]; rfl
  refine ⟨k, hk, ?_, by rw [e]; exact h3⟩
  unfold heardB at h2
  rw [Bool.and_eq_true, Bool.and_eq_true, decide_eq_true_eq, decide_eq_true_eq] at h2
  rw [e]; exact h2.2.2
/-! ### Lists in lists -/
def foundK (t : List Int) (b : List (List Int)) (k : Nat) : Bool := (List.range k).any (fun j => decide (t = b.getD j []))
def insideB (a b : List (List Int)) : Bool := a.all (fun x => foundK x b b.length)
section
variable {t : List Int} {a b : List (List Int)} {k i : Nat} {L M : List SV}
theorem found_succ : foundK t b (k + 1) = (foundK t b k || decide (t = b.getD k [])) := by unfold foundK; rw [List.range_succ, List.any_append]; simp
theorem found_iff : foundK t b b.length = true ↔ t ∈ b := by
  unfold foundK
  rw [List.any_eq_true]
  constructor
  · rintro ⟨j, hj, h⟩
    rw [of_decide_eq_true h]
    exact getD_lt (List.mem_range.1 hj)
  · intro h
    obtain ⟨j, hj, he⟩ := List.mem_iff_getElem.1 h
    exact ⟨j, List.mem_range.2 hj, decide_eq_true (by rw [List.getD_eq_getElem?_getD, List.getElem?_eq_getElem hj]; exact he.symm)⟩
theorem inside_iff : insideB a b = true ↔ ∀ t ∈ a, t ∈ b := by
  unfold insideB
  rw [List.all_eq_true]
  exact forall_congr' fun t => forall_congr' fun _ => found_iff
theorem svx_getD (L : List SV) (j : Nat) : (L.map (·.xs)).getD j [] = (L.getD j sv0).xs := by
  rw [List.getD_eq_getElem?_getD, List.getD_eq_getElem?_getD, List.getElem?_map]
  cases L[j]? <;> rfl
theorem inside_yes (h : ∀ j, j < L.length → foundK (L.getD j sv0).xs (M.map (·.xs)) M.length = true) : insideB (L.map (·.xs)) (M.map (·.xs)) = true := by
  unfold insideB
  rw [List.length_map]
  refine all_getD (d := []) (fun j hj => ?_)
  rw [svx_getD]
  exact h j (by rwa [List.length_map] at hj)
theorem inside_no (hi : i < L.length) (h : foundK (L.getD i sv0).xs (M.map (·.xs)) M.length = false) : insideB (L.map (·.xs)) (M.map (·.xs)) = false := by
  unfold insideB
  rw [List.length_map]
  exact all_bad (d := []) (k := i) (by rw [List.length_map]; exact hi) (by rw [svx_getD]; exact h)
theorem part_mk {xs : List Int} {k n : Nat} : (xs.take ((k : Int) + (n : Int)).toNat).drop k = subOf xs k n := by
  unfold subOf
  rw [show ((k : Int) + (n : Int)).toNat = k + n by omega]
theorem part_yes {xs ys : List Int} (h0 : 0 < xs.length) (hk : k + xs.length ≤ ys.length) (h : xs = subOf ys k xs.length) : partB xs ys = true := partB_iff.2 ⟨h0, k, hk, h⟩
theorem part_no {xs ys : List Int} (h : ∀ j, j < k → ¬ xs = subOf ys j xs.length) (hk : ys.length < k + xs.length ∨ xs.length = 0) : partB xs ys = false := by
  rw [← Bool.not_eq_true, partB_iff]
  rintro ⟨h0, lo, h1, h2⟩
  exact h lo (by omega) h2
end
/-- what is heard before an hour has the text as a part -/
def seenK (sl : List SN) (hr : Int) (t : List Int) (k : Nat) : Bool := (List.range k).any (fun j => decide ((sl.getD j sn00).h < hr) && partB t (sl.getD j sn00).xs)
section
variable {co : List Sg} {er : Int} {se : List Int} {sl : List SN} {rl : List RC} {hr : Int} {t : List Int} {k : Nat} {D : List SV}
theorem seen_succ : seenK sl hr t (k + 1) = (seenK sl hr t k || (decide ((sl.getD k sn00).h < hr) && partB t (sl.getD k sn00).xs)) := by unfold seenK; rw [List.range_succ, List.any_append]; simp
theorem seen_all (ht : t ∈ textsL (lg co er se sl rl) hr) : seenK sl hr t sl.length = true := by
  obtain ⟨k, hk, h1, h2⟩ := texts_at ht
  have hk : k < sl.length := by rw [lgJ] at hk; exact hk
  rw [lgJ_at hk] at h1 h2
  unfold seenK
  exact List.any_eq_true.2 ⟨k, List.mem_range.2 hk, by rw [decide_eq_true (show (sl.getD k sn00).h < hr from h1), show partB t (sl.getD k sn00).xs = true from partB_iff.2 h2]; rfl⟩
theorem tx_mem (hD : D.map (·.xs) = textsL (lg co er se sl rl) hr) (hk : k < D.length) : (D.getD k sv0).xs ∈ textsL (lg co er se sl rl) hr := by rw [← hD]; exact List.mem_map.2 ⟨_, getD_lt hk, rfl⟩
theorem inside_tail (hD : D.map (·.xs) = textsL (lg co er se sl rl) hr) (hk : k < D.length) (h1 : 1 < (D.getD k sv0).xs.length) : insideB [(D.getD k sv0).xs.drop 1] (D.map (·.xs)) = true := inside_iff.2 (fun t ht => by
  obtain rfl : t = (D.getD k sv0).xs.drop 1 := by simpa using ht
  rw [hD]; exact texts_sub (part_tail h1) (tx_mem hD hk))
theorem inside_init {n : Nat} (hD : D.map (·.xs) = textsL (lg co er se sl rl) hr) (hk : k < D.length) (h1 : 1 < (D.getD k sv0).xs.length) (hn : n = (D.getD k sv0).xs.length - 1) : insideB [(D.getD k sv0).xs.take n] (D.map (·.xs)) = true := inside_iff.2 (fun t ht => by
  obtain rfl : t = (D.getD k sv0).xs.take n := by simpa using ht
  rw [hD, hn]; exact texts_sub (part_init h1) (tx_mem hD hk))
end


theorem isPart6_ret (xa : Option Addr) (xc : Nat) (xs : List Int) (ya : Option Addr) (yc : Nat) (ys : List Int) (w : World) (hx : Row w xa xs.length xc 1 (xs.map vint)) (hxn : xs.length ≤ 2097152) (hy : Row w ya ys.length yc 1 (ys.map vint)) (hyn : ys.length ≤ 2097152) : Ret Tryz.prog 44 [.slice xa xs.length xc, .slice ya ys.length yc] w (fun v w' => v = .bool (partB xs ys) ∧ Ext w w') := by
 have hB := Below.refl w.heap.size w
 have hsz : w.heap.size ≤ w.heap.size := Nat.le_refl _
 refine ret_of_runs (args := [_, _]) Tryz.func44 rfl (Nat.le_of_ble_eq_true rfl) (by kernel_rfl) ?_
 refine r_seq (r_region' ?_)
 refine l_q (q_assign (v := .bool _) rfl rfl) ?_
 refine l_nil (r_seq (r_seq (r_region' ?_)))
 refine l_q (q_assign (v := .int _ _) rfl rfl) ?_
 refine l_nil (r_block ?_)
 refine r_rounds (α := Nat) (fun k e wl => Knows e [(0, .slice xa xs.length xc), (1, .slice ya ys.length yc), (5, vint (k : Int))] ∧ (k ≤ ys.length + 1) ∧ (∀ j, j < k → ¬ xs = subOf ys j xs.length) ∧ (w.heap.size ≤ wl.heap.size) ∧ (Below w.heap.size w wl)) (fun k => ys.length + 1 - k) 0 ?_ ?_
 ·
  exact ⟨⟨rfl, rfl, rfl, trivial⟩, (Nat.zero_le _), (fun i hi => absurd hi (Nat.not_lt_zero _)), hsz, hB⟩
 ·
  rintro k el1 wl1 ⟨hkn, hkk, hno, hsz, hB⟩ ih1
  obtain ⟨e1, rfl⟩ := knows_env hkn
  refine r_seq (r_seq (r_region' ?_))
  refine l_q (q_move (v := .int _ _) rfl rfl) ?_
  refine l_q (q_move (v := .slice _ _ _) rfl rfl) ?_
  refine l_q (q_len rfl Tryz.underlying25 rfl rfl) ?_
  refine l_q (q_add rfl rfl (by omega) rfl) ?_
  refine l_q (q_move (v := .slice _ _ _) rfl rfl) ?_
  refine l_q (q_len rfl Tryz.underlying25 rfl rfl) ?_
  refine l_q (q_leq rfl rfl rfl) ?_
  refine l_q (q_move (v := .bool _) rfl rfl) ?_
  refine l_part 13 rfl (fun hc2 => ?_) (fun hc2 => ?_)
  ·
   replace hc2 := dt hc2
   have g13 := hc2
   refine l_q (q_move (v := .slice _ _ _) rfl rfl) ?_
   refine l_q (q_len rfl Tryz.underlying25 rfl rfl) ?_
   refine l_q (q_gtr rfl rfl rfl) ?_
   refine l_q (q_pick_t (v := .bool _) rfl rfl rfl) ?_
   refine l_nil ?_
   refine r_forget [(0, .slice _ _ _), (1, .slice _ _ _), (5, .int _ _), (17, .bool _)] ⟨rfl, rfl, rfl, rfl, trivial⟩ (fun e3 => ?_)
   refine r_cond rfl (fun hc4 => ?_) (fun hc4 => ?_)
   ·
    replace hc4 := dt hc4
    have g17 := hc4
    refine r_skip (r_seq (r_block (r_seq (r_region' ?_))))
    refine l_q (q_move (v := .slice _ _ _) rfl rfl) ?_
    refine l_q (q_move (v := .slice _ _ _) rfl rfl) ?_
    refine l_q (q_move (v := .int _ _) rfl rfl) ?_
    refine l_q (q_move (v := .int _ _) rfl rfl) ?_
    refine l_q (q_move (v := .slice _ _ _) rfl rfl) ?_
    refine l_q (q_len rfl Tryz.underlying25 rfl rfl) ?_
    refine l_q (q_add rfl rfl (by omega) rfl) ?_
    obtain ⟨a5, c5, hr5, hv5⟩ := slice_ex (f := vint) (xs := ys) ((k : Int)) ((k : Int) + (xs.length : Int)) (hy.below hB) (by omega)
    refine l_q ((q_slice (lo := (k : Int)) (hi := (k : Int) + (xs.length : Int)) Tryz.underlying25 Tryz.sizeOf3 rfl rfl rfl (by omega) (hy.below hB).2.1 rfl).cast hv5) ?_
    refine l_o (o_call Tryz.call24 rfl (same_ret _ _ xs _ _ (((ys).take ((k : Int) + (xs.length : Int)).toNat).drop k) _ (hx.below hB) (by omega) hr5 (by simp only [List.length_drop, List.length_take]; omega)) rfl ?_)
    rintro _ w6 ⟨rfl, hE6⟩
    replace hB := below_ext hB hE6 hsz
    replace hsz := Nat.le_trans hsz hE6.size
    refine l_nil ?_
    refine r_cond rfl (fun hc7 => ?_) (fun hc7 => ?_)
    ·
     replace hc7 := dt hc7
     have g28 : xs = subOf ys k xs.length := (hc7).trans part_mk
     refine r_seq (r_region' ?_)
     refine l_q (q_assign (v := .bool _) rfl rfl) ?_
     refine l_nil ?_
     refine r_forget [(4, .bool _)] ⟨rfl, trivial⟩ (fun e8 => ?_)
     refine r_ret_ (vs := [.bool _]) rfl Tryz.func44 rfl (.nil _) ⟨rfl, trivial⟩ ?_
     exact ⟨vbool_eq (part_yes (by omega) (by omega) g28).symm, Ext.of_below hB⟩
    ·
     replace hc7 := df hc7
     have g28 : ¬ xs = subOf ys k xs.length := fun h => hc7 (h.trans part_mk.symm)
     refine r_skip (r_inBlock (r_region' ?_))
     refine l_q (q_move (v := .int _ _) rfl rfl) ?_
     refine l_q (q_add rfl rfl (by omega) rfl) ?_
     refine l_q (q_assign (v := .int _ _) rfl rfl) ?_
     refine l_nil ?_
     refine r_forget [(0, .slice _ _ _), (1, .slice _ _ _), (5, .int _ _)] ⟨rfl, rfl, rfl, trivial⟩ (fun e9 => ?_)
     exact ih1 (k + 1) _ _ ⟨⟨rfl, rfl, (vint_eq (by omega)), trivial⟩, (by omega), (fun j hj => by rcases Nat.lt_succ_iff_lt_or_eq.1 hj with h | h; exact hno j h; subst h; exact g28), hsz, hB⟩ (by first | omega | (dsimp only; omega))
   ·
    replace hc4 := dlt hc4
    have g17 := hc4
    refine r_exit rfl ?_
    refine r_seq (r_region' ?_)
    refine l_q (q_assign (v := .bool _) rfl rfl) ?_
    refine l_nil ?_
    refine r_ret_ (vs := [.bool _]) rfl Tryz.func44 rfl (.nil _) ⟨rfl, trivial⟩ ?_
    exact ⟨vbool_eq (part_no hno (by omega)).symm, Ext.of_below hB⟩
  ·
   replace hc2 := dle hc2
   have g13 := hc2
   refine l_q (q_skip rfl) ?_
   refine l_q (q_skip rfl) ?_
   refine l_q (q_skip rfl) ?_
   refine l_q (q_pick_f (v := .bool _) rfl rfl rfl) ?_
   refine l_nil ?_
   refine r_forget [(0, .slice _ _ _), (1, .slice _ _ _), (5, .int _ _), (17, .bool _)] ⟨rfl, rfl, rfl, rfl, trivial⟩ (fun e10 => ?_)
   refine r_cond_f rfl ?_
   refine r_exit rfl ?_
   refine r_seq (r_region' ?_)
   refine l_q (q_assign (v := .bool _) rfl rfl) ?_
   refine l_nil ?_
   refine r_ret_ (vs := [.bool _]) rfl Tryz.func44 rfl (.nil _) ⟨rfl, trivial⟩ ?_
   exact ⟨vbool_eq (part_no hno (by omega)).symm, Ext.of_below hB⟩
theorem inside6_ret (la : Option Addr) (lc : Nat) (L : List SV) (ma : Option Addr) (mc : Nat) (M : List SV) (w : World) (hl : Row w la L.length lc 1 (L.map SV.enc)) (hlr : RowsI w L) (hln : L.length ≤ 2097152) (hle : ∀ s ∈ L, s.xs.length ≤ 2097152) (hm : Row w ma M.length mc 1 (M.map SV.enc)) (hmr : RowsI w M) (hmn : M.length ≤ 2097152) (hme : ∀ s ∈ M, s.xs.length ≤ 2097152) : Ret Tryz.prog 40 [.slice la L.length lc, .slice ma M.length mc] w (fun v w' => v = .bool (insideB (L.map (·.xs)) (M.map (·.xs))) ∧ Ext w w') := by
 have hB := Below.refl w.heap.size w
 have hsz : w.heap.size ≤ w.heap.size := Nat.le_refl _
 refine ret_of_runs (args := [_, _]) Tryz.func40 rfl (Nat.le_of_ble_eq_true rfl) (by kernel_rfl) ?_
 refine r_seq (r_region' ?_)
 refine l_q (q_assign (v := .bool _) rfl rfl) ?_
 refine l_nil (r_seq (r_seq (r_region' ?_)))
 refine l_q (q_assign (v := .int _ _) rfl rfl) ?_
 refine l_nil (r_block ?_)
 refine r_rounds (α := Nat) (fun i e wl => Knows e [(0, .slice la L.length lc), (1, .slice ma M.length mc), (5, vint (i : Int))] ∧ (i ≤ L.length) ∧ (∀ j, j < i → foundK (L.getD j sv0).xs (M.map (·.xs)) M.length = true) ∧ (w.heap.size ≤ wl.heap.size) ∧ (Below w.heap.size w wl)) (fun i => L.length - i) 0 ?_ ?_
 ·
  exact ⟨⟨rfl, rfl, rfl, trivial⟩, (Nat.zero_le _), (fun i hi => absurd hi (Nat.not_lt_zero _)), hsz, hB⟩
 ·
  rintro i el1 wl1 ⟨hkn, hki, hq, hsz, hB⟩ ih1
  obtain ⟨e1, rfl⟩ := knows_env hkn
  refine r_seq (r_seq (r_region' ?_))
  refine l_q (q_move (v := .int _ _) rfl rfl) ?_
  refine l_q (q_move (v := .slice _ _ _) rfl rfl) ?_
  refine l_q (q_len rfl Tryz.underlying47 rfl rfl) ?_
  refine l_q (q_lss rfl rfl rfl) ?_
  refine l_nil ?_
  refine r_cond rfl (fun hc2 => ?_) (fun hc2 => ?_)
  ·
   replace hc2 := dt hc2
   have hil : i < L.length := by omega
   have hel := hle _ (getD_lt (d := sv0) hil)
   refine r_skip (r_seq (r_block (r_seq (r_region' ?_))))
   refine l_q (q_assign (v := .bool _) rfl rfl) ?_
   refine l_nil (r_seq (r_seq (r_region' ?_)))
   refine l_q (q_assign (v := .int _ _) rfl rfl) ?_
   refine l_nil (r_block ?_)
   refine r_rounds (α := Nat × Bool) (fun ⟨k, fb⟩ e wl => Knows e [(0, .slice la L.length lc), (1, .slice ma M.length mc), (5, vint (i : Int)), (6, .bool fb), (7, vint (k : Int))] ∧ (k ≤ M.length) ∧ (fb = foundK (L.getD i sv0).xs (M.map (·.xs)) k) ∧ (w.heap.size ≤ wl.heap.size) ∧ (Below w.heap.size w wl)) (fun ⟨k, fb⟩ => M.length - k) (0, false) ?_ ?_
   ·
    exact ⟨⟨rfl, rfl, rfl, rfl, rfl, trivial⟩, (Nat.zero_le _), rfl, hsz, hB⟩
   ·
    rintro ⟨k, fb⟩ el3 wl3 ⟨hkn, hkk, hf, hsz, hB⟩ ih3
    obtain ⟨e3, rfl⟩ := knows_env hkn
    refine r_seq (r_seq (r_region' ?_))
    refine l_q (q_move (v := .int _ _) rfl rfl) ?_
    refine l_q (q_move (v := .slice _ _ _) rfl rfl) ?_
    refine l_q (q_len rfl Tryz.underlying47 rfl rfl) ?_
    refine l_q (q_lss rfl rfl rfl) ?_
    refine l_nil ?_
    refine r_cond rfl (fun hc4 => ?_) (fun hc4 => ?_)
    ·
     replace hc4 := dt hc4
     have hkm : k < M.length := by omega
     have hem := hme _ (getD_lt (d := sv0) hkm)
     refine r_skip (r_seq (r_block ?_))
     refine r_draw ext_refl' ext_trans' [0, 1, 2, 3, 4, 5, 6, 7, 8, 9, 10, 11, 12] [10] 9 (by kernel_rfl) (by kernel_rfl) ?_
     intro w5 _ hE5
     replace hB := below_ext hB hE5 hsz
     replace hsz := Nat.le_trans hsz hE5.size
     refine m_q rfl rfl (fun w' hC' => q_move (v := .bool _) rfl rfl) ?_
     refine m_q rfl rfl (fun w' hC' => q_move (v := .bool _) rfl rfl) ?_
     refine m_part 21 rfl (fun hc6 => ?_) (fun hc6 => ?_)
     ·
      have g21 := hc6
      refine m_q rfl rfl (fun w' hC' => q_skip rfl) ?_
      refine m_q rfl rfl (fun w' hC' => q_skip rfl) ?_
      refine m_q rfl rfl (fun w' hC' => q_skip rfl) ?_
      refine m_q rfl rfl (fun w' hC' => q_skip rfl) ?_
      refine m_q rfl rfl (fun w' hC' => q_skip rfl) ?_
      refine m_q rfl rfl (fun w' hC' => q_skip rfl) ?_
      refine m_q rfl rfl (fun w' hC' => q_skip rfl) ?_
      refine m_q rfl rfl (fun w' hC' => q_skip rfl) ?_
      refine m_o rfl rfl ((q_skip rfl).eff ⟨Ext.refl _, ?_⟩)
      refine m_q rfl rfl (fun w' hC' => q_pick_t (v := .bool _) rfl rfl rfl) ?_
      refine m_q rfl rfl (fun w' hC' => q_assign (v := .bool _) rfl rfl) ?_
      refine m_nil ?_
      refine r_forget [(0, .slice _ _ _), (1, .slice _ _ _), (5, .int _ _), (6, .bool _), (7, .int _ _)] ⟨rfl, rfl, rfl, rfl, rfl, trivial⟩ (fun e7 => ?_)
      refine r_inBlock (r_region' ?_)
      refine l_q (q_move (v := .int _ _) rfl rfl) ?_
      refine l_q (q_add rfl rfl (by omega) rfl) ?_
      refine l_q (q_assign (v := .int _ _) rfl rfl) ?_
      refine l_nil ?_
      exact ih3 (k + 1, true) _ _ ⟨⟨rfl, rfl, rfl, rfl, (vint_eq (by omega)), trivial⟩, (by omega), (by rw [found_succ, ← hf, g21, svx_getD]; rfl), hsz, hB⟩ (by first | omega | (dsimp only; omega))
     ·
      have g21 := hc6
      refine m_q rfl rfl (fun w' hC' => q_move (v := .slice _ _ _) rfl rfl) ?_
      refine m_q rfl rfl (fun w' hC' => q_move (v := .int _ _) rfl rfl) ?_
      have hr9 := (hlr.below hB).get (i := i) (by omega)
      obtain ⟨b8, o8, ha8, hh8⟩ := (hl.below hB).at1 i ((L).getD i sv0) (getD_some (by omega))
      refine m_q rfl rfl (fun w' hC' => q_indexAddr1 Tryz.underlying47 Tryz.sizeOf25 rfl ha8 rfl (by omega) rfl) ?_
      refine m_q rfl rfl (fun w' hC' => q_load Tryz.isAgg25 rfl ((hh8.ext hC')) rfl) ?_
      refine m_q rfl rfl (fun w' hC' => q_move (v := .slice _ _ _) rfl rfl) ?_
      refine m_q rfl rfl (fun w' hC' => q_move (v := .int _ _) rfl rfl) ?_
      have hr11 := (hmr.below hB).get (i := k) (by omega)
      obtain ⟨b10, o10, ha10, hh10⟩ := (hm.below hB).at1 k ((M).getD k sv0) (getD_some (by omega))
      refine m_q rfl rfl (fun w' hC' => q_indexAddr1 Tryz.underlying47 Tryz.sizeOf25 rfl ha10 rfl (by omega) rfl) ?_
      refine m_q rfl rfl (fun w' hC' => q_load Tryz.isAgg25 rfl ((hh10.ext hC')) rfl) ?_
      refine m_o rfl rfl (o_call Tryz.call24 rfl (same_ret _ _ (((L).getD i sv0).xs) _ _ (((M).getD k sv0).xs) _ hr9 (by omega) hr11 (by omega)) rfl ?_)
      rintro _ w12 ⟨rfl, hE12⟩
      refine ⟨hE12, ?_⟩
      replace hB := below_ext hB hE12 hsz
      replace hsz := Nat.le_trans hsz hE12.size
      refine m_q rfl rfl (fun w' hC' => q_pick_f (v := .bool _) rfl rfl rfl) ?_
      refine m_q rfl rfl (fun w' hC' => q_assign (v := .bool _) rfl rfl) ?_
      refine m_nil ?_
      refine r_forget [(0, .slice _ _ _), (1, .slice _ _ _), (5, .int _ _), (6, .bool _), (7, .int _ _)] ⟨rfl, rfl, rfl, rfl, rfl, trivial⟩ (fun e13 => ?_)
      refine r_inBlock (r_region' ?_)
      refine l_q (q_move (v := .int _ _) rfl rfl) ?_
      refine l_q (q_add rfl rfl (by omega) rfl) ?_
      refine l_q (q_assign (v := .int _ _) rfl rfl) ?_
      refine l_nil ?_
      exact ih3 (k + 1, decide ((((L).getD i sv0).xs) = (((M).getD k sv0).xs))) _ _ ⟨⟨rfl, rfl, rfl, rfl, (vint_eq (by omega)), trivial⟩, (by omega), (by rw [found_succ, ← hf, g21, svx_getD]; rfl), hsz, hB⟩ (by first | omega | (dsimp only; omega))
    ·
     replace hc4 := dlt hc4
     refine r_exit rfl ?_
     refine r_seq (r_region' ?_)
     refine l_q (q_move (v := .bool _) rfl rfl) ?_
     refine l_q (q_not rfl rfl) ?_
     refine l_nil ?_
     refine r_cond rfl (fun hc14 => ?_) (fun hc14 => ?_)
     ·
      replace hc14 := nt hc14
      have g33 : fb = false := by simpa using hc14
      refine r_seq (r_region' ?_)
      refine l_q (q_assign (v := .bool _) rfl rfl) ?_
      refine l_nil ?_
      refine r_forget [(4, .bool _)] ⟨rfl, trivial⟩ (fun e15 => ?_)
      refine r_ret_ (vs := [.bool _]) rfl Tryz.func40 rfl (.nil _) ⟨rfl, trivial⟩ ?_
      exact ⟨vbool_eq (inside_no hil (by rw [← show k = M.length by omega, ← hf]; exact g33)).symm, Ext.of_below hB⟩
     ·
      replace hc14 := nf hc14
      have g33 : fb = true := by simpa using hc14
      refine r_skip (r_inBlock (r_region' ?_))
      refine l_q (q_move (v := .int _ _) rfl rfl) ?_
      refine l_q (q_add rfl rfl (by omega) rfl) ?_
      refine l_q (q_assign (v := .int _ _) rfl rfl) ?_
      refine l_nil ?_
      refine r_forget [(0, .slice _ _ _), (1, .slice _ _ _), (5, .int _ _)] ⟨rfl, rfl, rfl, trivial⟩ (fun e16 => ?_)
      exact ih1 (i + 1) _ _ ⟨⟨rfl, rfl, (vint_eq (by omega)), trivial⟩, (by omega), (fun j hj => by rcases Nat.lt_succ_iff_lt_or_eq.1 hj with h | h; exact hq j h; subst h; rw [← show k = M.length by omega, ← hf]; exact g33), hsz, hB⟩ (by first | omega | (dsimp only; omega))
  ·
   replace hc2 := dlt hc2
   refine r_exit rfl ?_
   refine r_seq (r_region' ?_)
   refine l_q (q_assign (v := .bool _) rfl rfl) ?_
   refine l_nil ?_
   refine r_ret_ (vs := [.bool _]) rfl Tryz.func40 rfl (.nil _) ⟨rfl, trivial⟩ ?_
   exact ⟨vbool_eq (inside_yes (fun j hj => hq j (by omega))).symm, Ext.of_below hB⟩
end Go.Proofs.YtekkdhpgcilpdaaGreat
