/- Contracts. -/
import Derived.Test.YtekkdhpgcilpdaaGreatM11
set_option linter.unusedVariables false
set_option linter.unusedSimpArgs false
namespace Go.Proofs.YtekkdhpgcilpdaaGreat
open Go Go.RowKit Go.Gv Go.Fl
/-! ### The document's example -/
def cod3 : List Sg := [[46], [45], [46, 46]]
def lineJ : List Sn := [⟨6, 0, [1, 0]⟩, ⟨8, 1, [2]⟩]
def lineR : List RC := [⟨6, 0, [45, 32, 46]⟩, ⟨8, 1, [45]⟩, ⟨9, 0, [46]⟩]
def rc4 : RC := ⟨6, 0, [45, 32, 46]⟩
def lineL (more : List RC) : Lg := ⟨cod3, 1, [5, -1], lineJ, lineR ++ more⟩
theorem lg_line {sl : List SN} {more : List RC} (h : sl.map SN.pn = lineJ) : lg cod3 1 [5, -1] sl (lineR ++ more) = lineL more := by unfold lg; rw [h]; rfl
theorem own_line : ownM (lineL []) 1 = ([1], 0) := by decide +kernel
theorem line_ok : faultM (lineL []) = 0 := by decide +kernel
theorem tx_line {b : Int} : textsL (lineL []) b = heardK (lineL []) b 5 := (heard_eq line_ok).symm
theorem tx8_line : textsL (lineL []) 8 = [[0], [1], [1, 0]] := by rw [tx_line]; decide +kernel
theorem tx9_line : textsL (lineL []) 9 = [[0], [1], [1, 0]] := by rw [tx_line]; decide +kernel
theorem heard_line : heardM (lineL []) 8 = ([[0], [1], [1, 0]], 0) := by rw [heardM_0 line_ok (by decide +kernel), tx8_line]
theorem masked_line : maskedM (lineL []) 2 = ([0], 0) := by
  unfold maskedM maskO
  rw [if_neg (by decide +kernel)]
  have h : ((lineL []).R.getD (2 : Int).toNat rcd0).h = 9 := rfl
  rw [h, tx9_line]
  decide +kernel
theorem verd_line : verdW (lineL []) = ([1, 3, 2], 0) := by decide +kernel
theorem assign_line : assignM (lineL []) = ([0, 1, -1], 0) := by decide +kernel
theorem leave_line : leavW (lineL [rc4]) = ([0], 0) := by decide +kernel
theorem cod3_le : ∀ s ∈ cod3, s.length ≤ 2097152 := by decide
theorem line_big {sl : List SN} {more : List RC} (hm : sl.map SN.pn = lineJ) (hn : more.length ≤ 1) (hl : ∀ r ∈ more, r.s.length ≤ 60) : LgBig cod3 1 [5, -1] sl (lineR ++ more) := by
  refine ⟨⟨by decide, cod3_le⟩, ⟨by decide, by decide⟩, by decide, ⟨?_, fun x hx => ?_⟩, ?_, fun r hr => ?_⟩
  · have := congrArg List.length hm
    rw [List.length_map] at this
    rw [this]; decide
  · have h1 : x.pn ∈ lineJ := by rw [← hm]; exact List.mem_map.2 ⟨x, hx, rfl⟩
    have h2 : ∀ y ∈ lineJ, y.xs.length ≤ 2097152 := by decide
    exact h2 _ h1
  · rw [List.length_append, show lineR.length = 3 from rfl]; omega
  · rcases List.mem_append.1 hr with h | h
    · have h2 : ∀ y ∈ lineR, y.s.length ≤ 2097152 := by decide
      exact h2 r h
    · have := hl r h; omega
theorem rowsS2 {w : World} {a b : SN} (ha : Row w a.a a.xs.length a.c 1 (a.xs.map vint)) (hb : Row w b.a b.xs.length b.c 1 (b.xs.map vint)) : RowsS w [a, b] := fun x hx => by
  rcases List.mem_cons.1 hx with rfl | hx
  · exact ha
  · have : x = b := by simpa using hx
    rw [this]; exact hb
theorem tx_len3 {L : List SV} {l : List (List Int)} (h : L.map (·.xs) = l) : L.length = l.length := by rw [← h, List.length_map]
theorem tx_small {L : List SV} {l : List (List Int)} (h : L.map (·.xs) = l) (hl : ∀ x ∈ l, x.length ≤ 2097152) : ∀ s ∈ L, s.xs.length ≤ 2097152 := fun s hs => hl _ (by rw [← h]; exact List.mem_map.2 ⟨s, hs, rfl⟩)


theorem lsame6_ret (la : Option Addr) (lc : Nat) (L : List SV) (ma : Option Addr) (mc : Nat) (M : List SV) (w : World) (hl : Row w la L.length lc 1 (L.map SV.enc)) (hlr : RowsI w L) (hln : L.length ≤ 2097152) (hle : ∀ s ∈ L, s.xs.length ≤ 2097152) (hm : Row w ma M.length mc 1 (M.map SV.enc)) (hmr : RowsI w M) (hmn : M.length ≤ 2097152) (hme : ∀ s ∈ M, s.xs.length ≤ 2097152) : Ret Tryz.prog 28 [.slice la L.length lc, .slice ma M.length mc] w (fun v w' => v = .bool (decide (L.map (·.xs) = M.map (·.xs))) ∧ Ext w w') := by
 have hB := Below.refl w.heap.size w
 have hsz : w.heap.size ≤ w.heap.size := Nat.le_refl _
 refine ret_of_runs (args := [_, _]) Tryz.func28 rfl (Nat.le_of_ble_eq_true rfl) (by kernel_rfl) (r_seq (r_region' (l_q (qab rfl rfl) (l_nil (r_seq (r_seq (r_region' (l_q (qms rfl rfl) (l_q (q_len rfl Tryz.underlying47 rfl rfl) (l_q (qms rfl rfl) (l_q (q_len rfl Tryz.underlying47 rfl rfl) (l_q (q_neq rfl rfl rfl) (l_nil (r_cond rfl (fun hc1 => ?_) (fun hc1 => ?_)))))))))))))))
 ·
  replace hc1 := df (nt hc1)
  refine r_seq (r_region' (l_q (qab rfl rfl) (l_nil (r_ret_ (vs := [.bool _]) rfl Tryz.func28 rfl (.nil _) ⟨rfl, trivial⟩ ?_))))
  exact ⟨vbool_eq (by symm; rw [decide_eq_false_iff_not]; intro h; have := congrArg List.length h; simp at this; omega), Ext.of_below hB⟩
 ·
  replace hc1 := dt (nf hc1)
  refine r_skip (r_seq (r_seq (r_region' (l_q (qai rfl rfl) (l_nil (r_block (r_rounds (α := Nat) (fun k e wl => Knows e [(0, .slice la L.length lc), (1, .slice ma M.length mc), (5, vint (k : Int))] ∧ (k ≤ L.length) ∧ (∀ j, j < k → (L.getD j sv0).xs = (M.getD j sv0).xs) ∧ (L.length = M.length) ∧ (w.heap.size ≤ wl.heap.size) ∧ (Below w.heap.size w wl)) (fun k => L.length - k) 0 ?_ ?_)))))))
  ·
   exact ⟨⟨rfl, rfl, rfl, trivial⟩, (Nat.zero_le _), (fun i hi => absurd hi (Nat.not_lt_zero _)), (by omega), hsz, hB⟩
  ·
   rintro k el2 wl2 ⟨hkn, hkk, hq, hlen, hsz, hB⟩ ih2
   obtain ⟨e2, rfl⟩ := knows_env hkn
   refine r_seq (r_seq (r_region' (l_q (qmi rfl rfl) (l_q (qms rfl rfl) (l_q (q_len rfl Tryz.underlying47 rfl rfl) (l_q (q_lss rfl rfl rfl) (l_nil (r_cond rfl (fun hc3 => ?_) (fun hc3 => ?_)))))))))
   ·
    replace hc3 := dt hc3
    have hkl : k < L.length := by omega
    have hel := hle _ (getD_lt (d := sv0) hkl)
    have hem := hme _ (getD_lt (d := sv0) (show k < M.length by omega))
    refine r_skip (r_seq (r_block (r_seq (r_draw ext_refl' ext_trans' [0, 1, 2, 3, 4, 5, 6, 7, 8, 9] [8] 2 (by kernel_rfl) (by kernel_rfl) ?_))))
    intro w4 _ hE4
    replace hB := below_ext hB hE4 hsz
    replace hsz := Nat.le_trans hsz hE4.size
    refine m_q rfl rfl (fun w' hC' => qms rfl rfl) (m_q rfl rfl (fun w' hC' => qmi rfl rfl) ?_)
    have hr6 := (hlr.below hB).get (i := k) (by omega)
    obtain ⟨b5, o5, ha5, hh5⟩ := (hl.below hB).at1 k ((L).getD k sv0) (getD_some (by omega))
    refine m_q rfl rfl (fun w' hC' => q_indexAddr1 Tryz.underlying47 Tryz.sizeOf25 rfl ha5 rfl (by omega) rfl) (m_q rfl rfl (fun w' hC' => q_load Tryz.isAgg25 rfl ((hh5.ext hC')) rfl) (m_q rfl rfl (fun w' hC' => qms rfl rfl) (m_q rfl rfl (fun w' hC' => qmi rfl rfl) ?_)))
    have hr8 := (hmr.below hB).get (i := k) (by omega)
    obtain ⟨b7, o7, ha7, hh7⟩ := (hm.below hB).at1 k ((M).getD k sv0) (getD_some (by omega))
    refine m_q rfl rfl (fun w' hC' => q_indexAddr1 Tryz.underlying47 Tryz.sizeOf25 rfl ha7 rfl (by omega) rfl) (m_q rfl rfl (fun w' hC' => q_load Tryz.isAgg25 rfl ((hh7.ext hC')) rfl) (m_o rfl rfl (o_call Tryz.call24 rfl (same_ret _ _ (((L).getD k sv0).xs) _ _ (((M).getD k sv0).xs) _ hr6 (by omega) hr8 (by omega)) rfl ?_)))
    rintro _ w9 ⟨rfl, hE9⟩
    refine ⟨hE9, ?_⟩
    replace hB := below_ext hB hE9 hsz
    replace hsz := Nat.le_trans hsz hE9.size
    refine m_q rfl rfl (fun w' hC' => q_not rfl rfl) (m_nil (r_forget [(0, .slice _ _ _), (1, .slice _ _ _), (5, .int _ _), (26, .bool _)] ⟨rfl, rfl, rfl, rfl, trivial⟩ (fun e10 => (r_cond rfl (fun hc11 => ?_) (fun hc11 => ?_)))))
    ·
     replace hc11 := df (nt hc11)
     refine r_seq (r_region' (l_q (qab rfl rfl) (l_nil (r_ret_ (vs := [.bool _]) rfl Tryz.func28 rfl (.nil _) ⟨rfl, trivial⟩ ?_))))
     exact ⟨vbool_eq (by symm; rw [decide_eq_false_iff_not, sv_maps]; rintro ⟨_, h⟩; exact absurd (h k (by omega)) (by simp_all)), Ext.of_below hB⟩
    ·
     replace hc11 := dt (nf hc11)
     refine r_skip (r_inBlock (r_region' (l_q (qmi rfl rfl) (l_q (q_add rfl rfl (by omega) rfl) (l_q (qai rfl rfl) (l_nil ?_))))))
     exact ih2 (k + 1) _ _ ⟨⟨rfl, rfl, (vint_eq (by omega)), trivial⟩, (by omega), (fun j hj => by rcases Nat.lt_succ_iff_lt_or_eq.1 hj with h | h; exact hq j h; subst h; first | assumption | simp_all), hlen, hsz, hB⟩ (by first | omega | (dsimp only; omega))
   ·
    replace hc3 := dlt hc3
    refine r_exit rfl (r_seq (r_region' (l_q (qab rfl rfl) (l_nil (r_ret_ (vs := [.bool _]) rfl Tryz.func28 rfl (.nil _) ⟨rfl, trivial⟩ ?_)))))
    exact ⟨vbool_eq (by symm; rw [decide_eq_true_eq, sv_maps]; exact ⟨hlen, fun j hj => hq j (by omega)⟩), Ext.of_below hB⟩
theorem line6_ret (ma : Option Addr) (mc : Nat) (ml : List RC) (w : World) (hm0 : Row w ma ml.length mc 3 (ml.flatMap RC.enc)) (hmn : ml.length ≤ 1) : Ret Tryz.prog 49 [.slice ma ml.length mc] w (fun v w' => ∃ ka kc sa sc ja jc sl ra rc, v = .agg ⟨[.slice ka cod3.length kc, vint 1, .slice sa [(5 : Int), -1].length sc, .slice ja (List.length sl) jc, .slice ra (lineR ++ ml).length rc]⟩ ∧ LgAt w' ka kc cod3 sa sc [5, -1] ja jc sl ra rc (lineR ++ ml) ∧ sl.map SN.pn = lineJ ∧ Ext w w') := by
 have hB := Below.refl w.heap.size w
 have hsz : w.heap.size ≤ w.heap.size := Nat.le_refl _
 refine ret_of_runs (args := [_]) Tryz.func49 rfl (Nat.le_of_ble_eq_true rfl) (by kernel_rfl) (r_seq (r_region' (l_o (o_alloct Tryz.zeroValue38 rfl rfl ?_))))
 intro b1 w1 hzl1 hzr1 _ hb1 hty_b1 hE1
 have hbs_b1 : w.heap.size ≤ b1 := Nat.le_trans hsz hzl1
 replace hB := below_ext hB hE1 hsz
 replace hsz := Nat.le_trans hsz hE1.size
 refine l_nil (r_seq (r_region' (l_o (o_buildSlice (el := 9) (cs := [vstr [46], vstr [45], vstr [46, 46]]) Tryz.underlying22 el9 (by decide) (by kernel_rfl) rfl (by decide) rfl ?_))))
 intro b2 w2 hzl2 hzr2 _ hb2 hE2 ho2
 have hne_b1_b2 : b1 ≠ b2 := by have := hb1.lt; omega
 have hbs_b2 : w.heap.size ≤ b2 := Nat.le_trans hsz hzl2
 replace hB := below_ext hB hE2 hsz
 replace hb1 := hb1.ext hE2
 replace hty_b1 := hty_b1.ext hE2
 replace hsz := Nat.le_trans hsz hE2.size
 refine l_q (q_build (v := .agg ⟨[.slice (some ⟨b2, 0, none⟩) 3 3]⟩) (fun w => by kernel_rfl) rfl) (l_o (o_buildSlice (el := 3) (cs := [vint 5, vint (-1)]) Tryz.underlying25 el3 (by decide) (by kernel_rfl) rfl (by decide) rfl ?_))
 intro b3 w3 hzl3 hzr3 _ hb3 hE3 ho3
 have hne_b1_b3 : b1 ≠ b3 := by have := hb1.lt; omega
 have hbs_b3 : w.heap.size ≤ b3 := Nat.le_trans hsz hzl3
 replace hB := below_ext hB hE3 hsz
 replace hb1 := hb1.ext hE3
 replace hty_b1 := hty_b1.ext hE3
 replace ho2 := own_ext ho2 hE3
 replace hsz := Nat.le_trans hsz hE3.size
 refine l_o (o_buildSlice (el := 3) (cs := [vint 1, vint 0]) Tryz.underlying25 el3 (by decide) (by kernel_rfl) rfl (by decide) rfl ?_)
 intro b4 w4 hzl4 hzr4 _ hb4 hE4 ho4
 have hne_b1_b4 : b1 ≠ b4 := by have := hb1.lt; omega
 have hbs_b4 : w.heap.size ≤ b4 := Nat.le_trans hsz hzl4
 replace hB := below_ext hB hE4 hsz
 replace hb1 := hb1.ext hE4
 replace hty_b1 := hty_b1.ext hE4
 replace ho2 := own_ext ho2 hE4
 replace ho3 := own_ext ho3 hE4
 replace hsz := Nat.le_trans hsz hE4.size
 refine l_q (q_build (v := .agg ⟨[vint 6, vint 0, .slice (some ⟨b4, 0, none⟩) 2 2]⟩) (fun w => by kernel_rfl) rfl) (l_o (o_buildSlice (el := 3) (cs := [vint 2]) Tryz.underlying25 el3 (by decide) (by kernel_rfl) rfl (by decide) rfl ?_))
 intro b5 w5 hzl5 hzr5 _ hb5 hE5 ho5
 have hne_b1_b5 : b1 ≠ b5 := by have := hb1.lt; omega
 have hbs_b5 : w.heap.size ≤ b5 := Nat.le_trans hsz hzl5
 replace hB := below_ext hB hE5 hsz
 replace hb1 := hb1.ext hE5
 replace hty_b1 := hty_b1.ext hE5
 replace ho2 := own_ext ho2 hE5
 replace ho3 := own_ext ho3 hE5
 replace ho4 := own_ext ho4 hE5
 replace hsz := Nat.le_trans hsz hE5.size
 refine l_q (q_build (v := .agg ⟨[vint 8, vint 1, .slice (some ⟨b5, 0, none⟩) 1 1]⟩) (fun w => by kernel_rfl) rfl) (l_o (o_buildSlice (el := 76) (cs := [vint 6, vint 0, .slice (some ⟨b4, 0, none⟩) 2 2, vint 8, vint 1, .slice (some ⟨b5, 0, none⟩) 1 1]) Tryz.underlying35 el76 (by decide) (by kernel_rfl) rfl (by decide) rfl ?_))
 intro b6 w6 hzl6 hzr6 _ hb6 hE6 ho6
 have hne_b1_b6 : b1 ≠ b6 := by have := hb1.lt; omega
 have hbs_b6 : w.heap.size ≤ b6 := Nat.le_trans hsz hzl6
 replace hB := below_ext hB hE6 hsz
 replace hb1 := hb1.ext hE6
 replace hty_b1 := hty_b1.ext hE6
 replace ho2 := own_ext ho2 hE6
 replace ho3 := own_ext ho3 hE6
 replace ho4 := own_ext ho4 hE6
 replace ho5 := own_ext ho5 hE6
 replace hsz := Nat.le_trans hsz hE6.size
 refine l_q (q_build (v := .agg ⟨[vint 6, vint 0, vstr [45, 32, 46]]⟩) (fun w => by kernel_rfl) rfl) (l_q (q_build (v := .agg ⟨[vint 8, vint 1, vstr [45]]⟩) (fun w => by kernel_rfl) rfl) (l_q (q_build (v := .agg ⟨[vint 9, vint 0, vstr [46]]⟩) (fun w => by kernel_rfl) rfl) (l_o (o_buildSlice (el := 75) (cs := [vint 6, vint 0, vstr [45, 32, 46], vint 8, vint 1, vstr [45], vint 9, vint 0, vstr [46]]) Tryz.underlying36 el75 (by decide) (by kernel_rfl) rfl (by decide) rfl ?_))))
 intro b7 w7 hzl7 hzr7 _ hb7 hE7 ho7
 have hne_b1_b7 : b1 ≠ b7 := by have := hb1.lt; omega
 have hbs_b7 : w.heap.size ≤ b7 := Nat.le_trans hsz hzl7
 replace hB := below_ext hB hE7 hsz
 replace hb1 := hb1.ext hE7
 replace hty_b1 := hty_b1.ext hE7
 replace ho2 := own_ext ho2 hE7
 replace ho3 := own_ext ho3 hE7
 replace ho4 := own_ext ho4 hE7
 replace ho5 := own_ext ho5 hE7
 replace ho6 := own_ext ho6 hE7
 replace hsz := Nat.le_trans hsz hE7.size
 refine l_q (qms rfl rfl) (l_o (o_append_wide RC.one (([⟨6, 0, [45, 32, 46]⟩, ⟨8, 1, [45]⟩, ⟨9, 0, [46]⟩] : List RC)) (ml) Tryz.underlying36 el75 rfl rfl ho7 rfl (hm0.below hB) (by (try simp only [List.length_append, List.length_cons, List.length_nil, List.length_take, List.length_drop, List.length_replicate]); omega) (by omega) rfl ?_))
 intro a9 c9 w9 hz9 ho9 hG9
 replace hB := below_own hB hG9 ho7 (by omega) hsz
 replace hsz := Nat.le_trans hsz hG9.size
 replace hb1 := hb1.step hG9 (own_ty_ne ho7 hty_b1 (by decide))
 replace ho2 := own_kept ho2 ho7 (by decide) hG9
 replace ho3 := own_kept ho3 ho7 (by decide) hG9
 replace ho4 := own_kept ho4 ho7 (by decide) hG9
 replace ho5 := own_kept ho5 ho7 (by decide) hG9
 replace ho6 := own_kept ho6 ho7 (by decide) hG9
 replace hty_b1 := TyAt.own hty_b1 ho7 hG9 (by decide)
 refine l_q (q_build (v := .agg ⟨[.slice (some ⟨b2, 0, none⟩) 3 3, vint 1, .slice (some ⟨b3, 0, none⟩) 2 2, .slice (some ⟨b6, 0, none⟩) 2 2, .slice a9 ((([⟨6, 0, [45, 32, 46]⟩, ⟨8, 1, [45]⟩, ⟨9, 0, [46]⟩] : List RC) ++ ml).length) c9]⟩) (fun w => by kernel_rfl) rfl) (l_o (o_storet (vs := [.slice (some ⟨b2, 0, none⟩) 3 3, vint 1, .slice (some ⟨b3, 0, none⟩) 2 2, .slice (some ⟨b6, 0, none⟩) 2 2, .slice a9 ((([⟨6, 0, [45, 32, 46]⟩, ⟨8, 1, [45]⟩, ⟨9, 0, [46]⟩] : List RC) ++ ml).length) c9]) (cs' := [.slice (some ⟨b2, 0, none⟩) 3 3, vint 1, .slice (some ⟨b3, 0, none⟩) 2 2, .slice (some ⟨b6, 0, none⟩) 2 2, .slice a9 ((([⟨6, 0, [45, 32, 46]⟩, ⟨8, 1, [45]⟩, ⟨9, 0, [46]⟩] : List RC) ++ ml).length) c9]) Tryz.sizeOf38 rfl rfl rfl rfl hb1 (Nat.le_of_ble_eq_true rfl) rfl rfl ?_))
 intro w10 hz10 hb1 hT10 hG10
 replace hB := below_upd hB hG10 hsz (by omega)
 replace hsz : w.heap.size ≤ w10.heap.size := by rw [hz10]; exact hsz
 replace ho2 := own_ty_upd ho2 hty_b1 hG10 (by decide)
 replace ho3 := own_ty_upd ho3 hty_b1 hG10 (by decide)
 replace ho4 := own_ty_upd ho4 hty_b1 hG10 (by decide)
 replace ho5 := own_ty_upd ho5 hty_b1 hG10 (by decide)
 replace ho6 := own_ty_upd ho6 hty_b1 hG10 (by decide)
 replace ho9 := own_ty_upd ho9 hty_b1 hG10 (by decide)
 refine l_nil (r_forget [(2, .pointer _)] ⟨rfl, trivial⟩ (fun e11 => (r_ret_ (vs := [.agg _]) rfl Tryz.func49 rfl (.nil _) ⟨⟨_, _, rfl, run_loadVarA Tryz.isAgg38 Tryz.sizeOf38 (hb1.cells' (cs' := [_, _, _, _, _]) 0 5 rfl) rfl⟩, trivial⟩ ?_)))
 exact ⟨some ⟨b2, 0, none⟩, 3, some ⟨b3, 0, none⟩, 2, some ⟨b6, 0, none⟩, 2, [⟨6, 0, some ⟨b4, 0, none⟩, 2, [1, 0]⟩, ⟨8, 1, some ⟨b5, 0, none⟩, 1, [2]⟩], a9, c9, rfl, ⟨Row.of_owns ho2, Row.of_owns ho3, Row.of_owns ho6, rowsS2 (Row.of_owns ho4) (Row.of_owns ho5), Row.of_owns ho9⟩, rfl, Ext.of_below hB⟩
theorem awake6_ret (w : World) : Ret Tryz.prog 18 [] w (fun v w' => v = .bool true ∧ Ext w w') := by
 have hB := Below.refl w.heap.size w
 have hsz : w.heap.size ≤ w.heap.size := Nat.le_refl _
 refine ret_of_runs (args := []) Tryz.func18 rfl (Nat.le_of_ble_eq_true rfl) (by kernel_rfl) (r_seq (r_region' (l_q (qab rfl rfl) (l_nil (r_seq (r_region' (l_o (o_call Tryz.call49 rfl (line6_ret none 0 [] _ (Row.nil _ _ _ _) (by decide)) rfl ?_))))))))
 rintro _ w1 ⟨ka1, kc1, sa1, sc1, ja1, jc1, sl1, ra1, rc1, rfl, hlg1, hm1, hE1⟩
 replace hB := below_ext hB hE1 hsz
 replace hsz := Nat.le_trans hsz hE1.size
 have hv1 := (own6_ret ka1 kc1 cod3 1 sa1 sc1 [5, -1] ja1 jc1 sl1 ra1 rc1 (lineR ++ []) 1 _ hlg1 (line_big hm1 (by decide) (by decide)))
 rw [lg_line hm1, own_line] at hv1
 refine l_o (o_call Tryz.call21 rfl (hv1) rfl ?_)
 rintro _ w2 ⟨a2_0, c2_0, rfl, hr2_0, hE2⟩
 replace hB := below_ext hB hE2 hsz
 replace hsz := Nat.le_trans hsz hE2.size
 refine l_q (q_move (v := .tuple _) rfl rfl) (l_q (q_extract (vs := [_, _]) (v := .slice _ _ _) rfl rfl rfl) (l_q (q_extract (vs := [_, _]) (v := .int _ _) rfl rfl rfl) (l_q (qas rfl rfl) (l_q (qai rfl rfl) (l_nil (r_seq (r_region' (l_o (o_call Tryz.call49 rfl (line6_ret none 0 [] _ (Row.nil _ _ _ _) (by decide)) rfl ?_)))))))))
 rintro _ w3 ⟨ka3, kc3, sa3, sc3, ja3, jc3, sl3, ra3, rc3, rfl, hlg3, hm3, hE3⟩
 replace hB := below_ext hB hE3 hsz
 replace hr2_0 := hr2_0.ext hE3
 replace hsz := Nat.le_trans hsz hE3.size
 have hv3 := mHeard_ret ka3 kc3 cod3 1 sa3 sc3 [5, -1] ja3 jc3 sl3 ra3 rc3 (lineR ++ []) 8 _ hlg3 (line_big hm3 (by decide) (by decide))
 rw [lg_line hm3, heard_line] at hv3
 refine l_o (o_call Tryz.call26 rfl (hv3) rfl ?_)
 rintro _ w4 ⟨ta4, tc4, D4, rfl, hrt4, hri4, hD8, hE4⟩
 replace hB := below_ext hB hE4 hsz
 replace hr2_0 := hr2_0.ext hE4
 replace hsz := Nat.le_trans hsz hE4.size
 refine l_q (q_move (v := .tuple _) rfl rfl) (l_q (q_extract (vs := [_, _]) (v := .slice _ _ _) rfl rfl rfl) (l_q (q_extract (vs := [_, _]) (v := .int _ _) rfl rfl rfl) (l_q (qas rfl rfl) (l_q (qai rfl rfl) (l_nil (r_forget [(1, .slice _ _ _), (2, .int _ _), (3, .slice _ _ _), (4, .int _ _)] ⟨rfl, rfl, rfl, rfl, trivial⟩ (fun e5 => (r_seq (r_region' (l_o (o_call Tryz.call49 rfl (line6_ret none 0 [] _ (Row.nil _ _ _ _) (by decide)) rfl ?_)))))))))))
 rintro _ w6 ⟨ka6, kc6, sa6, sc6, ja6, jc6, sl6, ra6, rc6, rfl, hlg6, hm6, hE6⟩
 replace hB := below_ext hB hE6 hsz
 replace hr2_0 := hr2_0.ext hE6
 replace hrt4 := hrt4.ext hE6
 replace hri4 := hri4.ext hE6
 replace hsz := Nat.le_trans hsz hE6.size
 have hv6 := (mMasked_ret ka6 kc6 cod3 1 sa6 sc6 [5, -1] ja6 jc6 sl6 ra6 rc6 (lineR ++ []) 2 _ hlg6 (line_big hm6 (by decide) (by decide)))
 rw [lg_line hm6, masked_line] at hv6
 refine l_o (o_call Tryz.call27 rfl (hv6) rfl ?_)
 rintro _ w7 ⟨a7_0, c7_0, rfl, hr7_0, hE7⟩
 replace hB := below_ext hB hE7 hsz
 replace hr2_0 := hr2_0.ext hE7
 replace hrt4 := hrt4.ext hE7
 replace hri4 := hri4.ext hE7
 replace hsz := Nat.le_trans hsz hE7.size
 refine l_q (q_move (v := .tuple _) rfl rfl) (l_q (q_extract (vs := [_, _]) (v := .slice _ _ _) rfl rfl rfl) (l_q (q_extract (vs := [_, _]) (v := .int _ _) rfl rfl rfl) (l_q (qas rfl rfl) (l_q (qai rfl rfl) (l_nil (r_seq (r_region' (l_o (o_call Tryz.call49 rfl (line6_ret none 0 [] _ (Row.nil _ _ _ _) (by decide)) rfl ?_)))))))))
 rintro _ w8 ⟨ka8, kc8, sa8, sc8, ja8, jc8, sl8, ra8, rc8, rfl, hlg8, hm8, hE8⟩
 replace hB := below_ext hB hE8 hsz
 replace hr2_0 := hr2_0.ext hE8
 replace hrt4 := hrt4.ext hE8
 replace hri4 := hri4.ext hE8
 replace hr7_0 := hr7_0.ext hE8
 replace hsz := Nat.le_trans hsz hE8.size
 have hv8 := (verdicts6_ret ka8 kc8 cod3 1 sa8 sc8 [5, -1] ja8 jc8 sl8 ra8 rc8 (lineR ++ []) _ hlg8 (line_big hm8 (by decide) (by decide)))
 rw [lg_line hm8, verd_line] at hv8
 refine l_o (o_call Tryz.call35 rfl (hv8) rfl ?_)
 rintro _ w9 ⟨a9_0, c9_0, rfl, hr9_0, hE9⟩
 replace hB := below_ext hB hE9 hsz
 replace hr2_0 := hr2_0.ext hE9
 replace hrt4 := hrt4.ext hE9
 replace hri4 := hri4.ext hE9
 replace hr7_0 := hr7_0.ext hE9
 replace hsz := Nat.le_trans hsz hE9.size
 refine l_q (q_move (v := .tuple _) rfl rfl) (l_q (q_extract (vs := [_, _]) (v := .slice _ _ _) rfl rfl rfl) (l_q (q_extract (vs := [_, _]) (v := .int _ _) rfl rfl rfl) (l_q (qas rfl rfl) (l_q (qai rfl rfl) (l_nil (r_forget [(1, .slice _ _ _), (2, .int _ _), (3, .slice _ _ _), (4, .int _ _), (5, .slice _ _ _), (6, .int _ _), (7, .slice _ _ _), (8, .int _ _)] ⟨rfl, rfl, rfl, rfl, rfl, rfl, rfl, rfl, trivial⟩ (fun e10 => (r_seq (r_region' (l_o (o_call Tryz.call49 rfl (line6_ret none 0 [] _ (Row.nil _ _ _ _) (by decide)) rfl ?_)))))))))))
 rintro _ w11 ⟨ka11, kc11, sa11, sc11, ja11, jc11, sl11, ra11, rc11, rfl, hlg11, hm11, hE11⟩
 replace hB := below_ext hB hE11 hsz
 replace hr2_0 := hr2_0.ext hE11
 replace hrt4 := hrt4.ext hE11
 replace hri4 := hri4.ext hE11
 replace hr7_0 := hr7_0.ext hE11
 replace hr9_0 := hr9_0.ext hE11
 replace hsz := Nat.le_trans hsz hE11.size
 have hv11 := (assign6_ret ka11 kc11 cod3 1 sa11 sc11 [5, -1] ja11 jc11 sl11 ra11 rc11 (lineR ++ []) _ hlg11 (line_big hm11 (by decide) (by decide)))
 rw [lg_line hm11, assign_line] at hv11
 refine l_o (o_call Tryz.call36 rfl (hv11) rfl ?_)
 rintro _ w12 ⟨a12_0, c12_0, rfl, hr12_0, hE12⟩
 replace hB := below_ext hB hE12 hsz
 replace hr2_0 := hr2_0.ext hE12
 replace hrt4 := hrt4.ext hE12
 replace hri4 := hri4.ext hE12
 replace hr7_0 := hr7_0.ext hE12
 replace hr9_0 := hr9_0.ext hE12
 replace hsz := Nat.le_trans hsz hE12.size
 refine l_q (q_move (v := .tuple _) rfl rfl) (l_q (q_extract (vs := [_, _]) (v := .slice _ _ _) rfl rfl rfl) (l_q (q_extract (vs := [_, _]) (v := .int _ _) rfl rfl rfl) (l_q (qas rfl rfl) (l_q (qai rfl rfl) (l_nil (r_seq (r_region' (l_q (q_build (v := .agg ⟨[vint 6, vint 0, vstr [45, 32, 46]]⟩) (fun w => by kernel_rfl) rfl) (l_o (o_buildSlice (el := 75) (cs := [vint 6, vint 0, vstr [45, 32, 46]]) Tryz.underlying36 el75 (by decide) (by kernel_rfl) rfl (by decide) rfl ?_))))))))))
 intro b13 w13 hzl13 hzr13 _ hb13 hE13 ho13
 have hszq13 : w.heap.size ≤ w12.heap.size := hsz
 have hbs_b13 : w.heap.size ≤ b13 := Nat.le_trans hsz hzl13
 replace hB := below_ext hB hE13 hsz
 replace hr2_0 := hr2_0.ext hE13
 replace hrt4 := hrt4.ext hE13
 replace hri4 := hri4.ext hE13
 replace hr7_0 := hr7_0.ext hE13
 replace hr9_0 := hr9_0.ext hE13
 replace hr12_0 := hr12_0.ext hE13
 replace hsz := Nat.le_trans hsz hE13.size
 refine l_o (o_call Tryz.call49 rfl (line6_ret (some ⟨b13, 0, none⟩) 1 [rc4] _ (Row.of_owns ho13) (by decide)) rfl ?_)
 rintro _ w14 ⟨ka14, kc14, sa14, sc14, ja14, jc14, sl14, ra14, rc14, rfl, hlg14, hm14, hE14⟩
 replace hB := below_ext hB hE14 hsz
 replace hr2_0 := hr2_0.ext hE14
 replace hrt4 := hrt4.ext hE14
 replace hri4 := hri4.ext hE14
 replace hr7_0 := hr7_0.ext hE14
 replace hr9_0 := hr9_0.ext hE14
 replace hr12_0 := hr12_0.ext hE14
 replace hsz := Nat.le_trans hsz hE14.size
 have hv14 := (leave6_ret ka14 kc14 cod3 1 sa14 sc14 [5, -1] ja14 jc14 sl14 ra14 rc14 (lineR ++ [rc4]) _ hlg14 (line_big hm14 (by decide) (by decide)))
 rw [lg_line hm14, leave_line] at hv14
 refine l_o (o_call Tryz.call32 rfl (hv14) rfl ?_)
 rintro _ w15 ⟨a15_0, c15_0, rfl, hr15_0, hE15⟩
 replace hB := below_ext hB hE15 hsz
 replace hr2_0 := hr2_0.ext hE15
 replace hrt4 := hrt4.ext hE15
 replace hri4 := hri4.ext hE15
 replace hr7_0 := hr7_0.ext hE15
 replace hr9_0 := hr9_0.ext hE15
 replace hr12_0 := hr12_0.ext hE15
 replace hsz := Nat.le_trans hsz hE15.size
 refine l_q (q_move (v := .tuple _) rfl rfl) (l_q (q_extract (vs := [_, _]) (v := .slice _ _ _) rfl rfl rfl) (l_q (q_extract (vs := [_, _]) (v := .int _ _) rfl rfl rfl) (l_q (qas rfl rfl) (l_q (qai rfl rfl) (l_nil (r_forget [(1, .slice _ _ _), (2, .int _ _), (3, .slice _ _ _), (4, .int _ _), (5, .slice _ _ _), (6, .int _ _), (7, .slice _ _ _), (8, .int _ _), (9, .slice _ _ _), (10, .int _ _), (11, .slice _ _ _), (12, .int _ _)] ⟨rfl, rfl, rfl, rfl, rfl, rfl, rfl, rfl, rfl, rfl, rfl, rfl, trivial⟩ (fun e16 => (r_seq (r_region' (l_q (qmi rfl rfl) (l_q (q_eql rfl rfl rfl) (l_q (qmb rfl rfl) ?_))))))))))))
 have hk17 : (decide (0 = 0)) = true := by decide
 refine l_part 47 rfl (fun _ => ?_) (fun hx => absurd (hk17.symm.trans hx) (by decide))
 refine l_q (qms rfl rfl) (l_o (o_buildSlice (el := 3) (cs := [vint 1]) Tryz.underlying25 el3 (by decide) (by kernel_rfl) rfl (by decide) rfl ?_))
 intro b18 w18 hzl18 hzr18 _ hb18 hE18 ho18
 have hszq18 : w.heap.size ≤ w15.heap.size := hsz
 have hbs_b18 : w.heap.size ≤ b18 := Nat.le_trans hsz hzl18
 replace hB := below_ext hB hE18 hsz
 replace hr2_0 := hr2_0.ext hE18
 replace hrt4 := hrt4.ext hE18
 replace hri4 := hri4.ext hE18
 replace hr7_0 := hr7_0.ext hE18
 replace hr9_0 := hr9_0.ext hE18
 replace hr12_0 := hr12_0.ext hE18
 replace hr15_0 := hr15_0.ext hE18
 replace hsz := Nat.le_trans hsz hE18.size
 refine l_o (o_call Tryz.call24 rfl (same_ret _ _ [1] _ _ [1] _ hr2_0 (by decide) (Row.of_owns ho18) (by decide)) rfl ?_)
 rintro _ w19 ⟨rfl, hE19⟩
 replace hB := below_ext hB hE19 hsz
 replace hrt4 := hrt4.ext hE19
 replace hri4 := hri4.ext hE19
 replace hr7_0 := hr7_0.ext hE19
 replace hr9_0 := hr9_0.ext hE19
 replace hr12_0 := hr12_0.ext hE19
 replace hr15_0 := hr15_0.ext hE19
 replace hsz := Nat.le_trans hsz hE19.size
 refine l_q (q_pick_t (v := .bool _) rfl rfl rfl) (l_q (qmb rfl rfl) ?_)
 have hk20 : (decide ([1] = [1])) = true := by decide
 refine l_part 52 rfl (fun _ => ?_) (fun hx => absurd (hk20.symm.trans hx) (by decide))
 refine l_q (qmi rfl rfl) (l_q (q_eql rfl rfl rfl) (l_q (q_pick_t (v := .bool _) rfl rfl rfl) (l_q (qmb rfl rfl) ?_)))
 have hk21 : (decide (0 = 0)) = true := by decide
 refine l_part 56 rfl (fun _ => ?_) (fun hx => absurd (hk21.symm.trans hx) (by decide))
 refine l_q (qms rfl rfl) (l_o (o_buildSlice (el := 3) (cs := [vint 0]) Tryz.underlying25 el3 (by decide) (by kernel_rfl) rfl (by decide) rfl ?_))
 intro b22 w22 hzl22 hzr22 _ hb22 hE22 ho22
 have hszq22 : w.heap.size ≤ w19.heap.size := hsz
 have hbs_b22 : w.heap.size ≤ b22 := Nat.le_trans hsz hzl22
 replace hB := below_ext hB hE22 hsz
 replace hrt4 := hrt4.ext hE22
 replace hri4 := hri4.ext hE22
 replace hr7_0 := hr7_0.ext hE22
 replace hr9_0 := hr9_0.ext hE22
 replace hr12_0 := hr12_0.ext hE22
 replace hr15_0 := hr15_0.ext hE22
 replace hsz := Nat.le_trans hsz hE22.size
 refine l_o (o_buildSlice (el := 3) (cs := [vint 1]) Tryz.underlying25 el3 (by decide) (by kernel_rfl) rfl (by decide) rfl ?_)
 intro b23 w23 hzl23 hzr23 _ hb23 hE23 ho23
 have hszq23 : w.heap.size ≤ w22.heap.size := hsz
 have hbs_b23 : w.heap.size ≤ b23 := Nat.le_trans hsz hzl23
 replace hB := below_ext hB hE23 hsz
 replace hrt4 := hrt4.ext hE23
 replace hri4 := hri4.ext hE23
 replace hr7_0 := hr7_0.ext hE23
 replace hr9_0 := hr9_0.ext hE23
 replace hr12_0 := hr12_0.ext hE23
 replace hr15_0 := hr15_0.ext hE23
 replace ho22 := own_ext ho22 hE23
 replace hsz := Nat.le_trans hsz hE23.size
 refine l_o (o_buildSlice (el := 3) (cs := [vint 1, vint 0]) Tryz.underlying25 el3 (by decide) (by kernel_rfl) rfl (by decide) rfl ?_)
 intro b24 w24 hzl24 hzr24 _ hb24 hE24 ho24
 have hszq24 : w.heap.size ≤ w23.heap.size := hsz
 have hbs_b24 : w.heap.size ≤ b24 := Nat.le_trans hsz hzl24
 replace hB := below_ext hB hE24 hsz
 replace hrt4 := hrt4.ext hE24
 replace hri4 := hri4.ext hE24
 replace hr7_0 := hr7_0.ext hE24
 replace hr9_0 := hr9_0.ext hE24
 replace hr12_0 := hr12_0.ext hE24
 replace hr15_0 := hr15_0.ext hE24
 replace ho22 := own_ext ho22 hE24
 replace ho23 := own_ext ho23 hE24
 replace hsz := Nat.le_trans hsz hE24.size
 refine l_o (o_buildSlice (el := 25) (cs := [.slice (some ⟨b22, 0, none⟩) 1 1, .slice (some ⟨b23, 0, none⟩) 1 1, .slice (some ⟨b24, 0, none⟩) 2 2]) Tryz.underlying47 el25 (by decide) (by kernel_rfl) rfl (by decide) rfl ?_)
 intro b25 w25 hzl25 hzr25 _ hb25 hE25 ho25
 have hszq25 : w.heap.size ≤ w24.heap.size := hsz
 have hbs_b25 : w.heap.size ≤ b25 := Nat.le_trans hsz hzl25
 replace hB := below_ext hB hE25 hsz
 replace hrt4 := hrt4.ext hE25
 replace hri4 := hri4.ext hE25
 replace hr7_0 := hr7_0.ext hE25
 replace hr9_0 := hr9_0.ext hE25
 replace hr12_0 := hr12_0.ext hE25
 replace hr15_0 := hr15_0.ext hE25
 replace ho22 := own_ext ho22 hE25
 replace ho23 := own_ext ho23 hE25
 replace ho24 := own_ext ho24 hE25
 replace hsz := Nat.le_trans hsz hE25.size
 have hos25 : OwnsI w25 w.heap.size 3 ([⟨some ⟨b22, 0, none⟩, 1, [0]⟩, ⟨some ⟨b23, 0, none⟩, 1, [1]⟩, ⟨some ⟨b24, 0, none⟩, 2, [1, 0]⟩] : List SV) := OwnsI.snoc (OwnsI.snoc (OwnsI.snoc (OwnsI.nil _ _ _) (own_mono ho22 (by omega))) (own_mono ho23 (by omega))) (own_mono ho24 (by omega))
 refine l_o (o_call Tryz.call28 rfl (lsame6_ret _ _ D4 _ _ ([⟨some ⟨b22, 0, none⟩, 1, [0]⟩, ⟨some ⟨b23, 0, none⟩, 1, [1]⟩, ⟨some ⟨b24, 0, none⟩, 2, [1, 0]⟩] : List SV) _ hrt4 hri4 (by rw [tx_len3 hD8]; decide) (tx_small hD8 (by decide)) (Row.of_owns ho25) hos25.rows (by simp) (by simp)) rfl ?_)
 rintro _ w26 ⟨rfl, hE26⟩
 replace hB := below_ext hB hE26 hsz
 replace hr7_0 := hr7_0.ext hE26
 replace hr9_0 := hr9_0.ext hE26
 replace hr12_0 := hr12_0.ext hE26
 replace hr15_0 := hr15_0.ext hE26
 replace hsz := Nat.le_trans hsz hE26.size
 refine l_q (q_pick_t (v := .bool _) rfl rfl rfl) (l_q (qmb rfl rfl) ?_)
 have hk27 : (decide (D4.map (·.xs) = [[0], [1], [1, 0]])) = true := decide_eq_true hD8
 refine l_part 64 rfl (fun _ => ?_) (fun hx => absurd (hk27.symm.trans hx) (by decide))
 refine l_q (qmi rfl rfl) (l_q (q_eql rfl rfl rfl) (l_q (q_pick_t (v := .bool _) rfl rfl rfl) (l_q (qmb rfl rfl) ?_)))
 have hk28 : (decide (0 = 0)) = true := by decide
 refine l_part 68 rfl (fun _ => ?_) (fun hx => absurd (hk28.symm.trans hx) (by decide))
 refine l_q (qms rfl rfl) (l_o (o_buildSlice (el := 3) (cs := [vint 0]) Tryz.underlying25 el3 (by decide) (by kernel_rfl) rfl (by decide) rfl ?_))
 intro b29 w29 hzl29 hzr29 _ hb29 hE29 ho29
 have hszq29 : w.heap.size ≤ w26.heap.size := hsz
 have hbs_b29 : w.heap.size ≤ b29 := Nat.le_trans hsz hzl29
 replace hB := below_ext hB hE29 hsz
 replace hr7_0 := hr7_0.ext hE29
 replace hr9_0 := hr9_0.ext hE29
 replace hr12_0 := hr12_0.ext hE29
 replace hr15_0 := hr15_0.ext hE29
 replace hsz := Nat.le_trans hsz hE29.size
 refine l_o (o_call Tryz.call24 rfl (same_ret _ _ [0] _ _ [0] _ hr7_0 (by decide) (Row.of_owns ho29) (by decide)) rfl ?_)
 rintro _ w30 ⟨rfl, hE30⟩
 replace hB := below_ext hB hE30 hsz
 replace hr9_0 := hr9_0.ext hE30
 replace hr12_0 := hr12_0.ext hE30
 replace hr15_0 := hr15_0.ext hE30
 replace hsz := Nat.le_trans hsz hE30.size
 refine l_q (q_pick_t (v := .bool _) rfl rfl rfl) (l_q (qmb rfl rfl) ?_)
 have hk31 : (decide ([0] = [0])) = true := by decide
 refine l_part 73 rfl (fun _ => ?_) (fun hx => absurd (hk31.symm.trans hx) (by decide))
 refine l_q (qmi rfl rfl) (l_q (q_eql rfl rfl rfl) (l_q (q_pick_t (v := .bool _) rfl rfl rfl) (l_q (qmb rfl rfl) ?_)))
 have hk32 : (decide (0 = 0)) = true := by decide
 refine l_part 77 rfl (fun _ => ?_) (fun hx => absurd (hk32.symm.trans hx) (by decide))
 refine l_q (qms rfl rfl) (l_o (o_buildSlice (el := 3) (cs := [vint 1, vint 3, vint 2]) Tryz.underlying25 el3 (by decide) (by kernel_rfl) rfl (by decide) rfl ?_))
 intro b33 w33 hzl33 hzr33 _ hb33 hE33 ho33
 have hszq33 : w.heap.size ≤ w30.heap.size := hsz
 have hbs_b33 : w.heap.size ≤ b33 := Nat.le_trans hsz hzl33
 replace hB := below_ext hB hE33 hsz
 replace hr9_0 := hr9_0.ext hE33
 replace hr12_0 := hr12_0.ext hE33
 replace hr15_0 := hr15_0.ext hE33
 replace hsz := Nat.le_trans hsz hE33.size
 refine l_o (o_call Tryz.call24 rfl (same_ret _ _ [1, 3, 2] _ _ [1, 3, 2] _ hr9_0 (by decide) (Row.of_owns ho33) (by decide)) rfl ?_)
 rintro _ w34 ⟨rfl, hE34⟩
 replace hB := below_ext hB hE34 hsz
 replace hr12_0 := hr12_0.ext hE34
 replace hr15_0 := hr15_0.ext hE34
 replace hsz := Nat.le_trans hsz hE34.size
 refine l_q (q_pick_t (v := .bool _) rfl rfl rfl) (l_q (qmb rfl rfl) ?_)
 have hk35 : (decide ([1, 3, 2] = [1, 3, 2])) = true := by decide
 refine l_part 82 rfl (fun _ => ?_) (fun hx => absurd (hk35.symm.trans hx) (by decide))
 refine l_q (qmi rfl rfl) (l_q (q_eql rfl rfl rfl) (l_q (q_pick_t (v := .bool _) rfl rfl rfl) (l_q (qmb rfl rfl) ?_)))
 have hk36 : (decide (0 = 0)) = true := by decide
 refine l_part 86 rfl (fun _ => ?_) (fun hx => absurd (hk36.symm.trans hx) (by decide))
 refine l_q (qms rfl rfl) (l_o (o_buildSlice (el := 3) (cs := [vint 0, vint 1, vint (-1)]) Tryz.underlying25 el3 (by decide) (by kernel_rfl) rfl (by decide) rfl ?_))
 intro b37 w37 hzl37 hzr37 _ hb37 hE37 ho37
 have hszq37 : w.heap.size ≤ w34.heap.size := hsz
 have hbs_b37 : w.heap.size ≤ b37 := Nat.le_trans hsz hzl37
 replace hB := below_ext hB hE37 hsz
 replace hr12_0 := hr12_0.ext hE37
 replace hr15_0 := hr15_0.ext hE37
 replace hsz := Nat.le_trans hsz hE37.size
 refine l_o (o_call Tryz.call24 rfl (same_ret _ _ [0, 1, -1] _ _ [0, 1, -1] _ hr12_0 (by decide) (Row.of_owns ho37) (by decide)) rfl ?_)
 rintro _ w38 ⟨rfl, hE38⟩
 replace hB := below_ext hB hE38 hsz
 replace hr15_0 := hr15_0.ext hE38
 replace hsz := Nat.le_trans hsz hE38.size
 refine l_q (q_pick_t (v := .bool _) rfl rfl rfl) (l_q (qmb rfl rfl) ?_)
 have hk39 : (decide ([0, 1, -1] = [0, 1, -1])) = true := by decide
 refine l_part 91 rfl (fun _ => ?_) (fun hx => absurd (hk39.symm.trans hx) (by decide))
 refine l_q (qmi rfl rfl) (l_q (q_eql rfl rfl rfl) (l_q (q_pick_t (v := .bool _) rfl rfl rfl) (l_q (qmb rfl rfl) ?_)))
 have hk40 : (decide (0 = 0)) = true := by decide
 refine l_part 95 rfl (fun _ => ?_) (fun hx => absurd (hk40.symm.trans hx) (by decide))
 refine l_q (qms rfl rfl) (l_o (o_buildSlice (el := 3) (cs := [vint 0]) Tryz.underlying25 el3 (by decide) (by kernel_rfl) rfl (by decide) rfl ?_))
 intro b41 w41 hzl41 hzr41 _ hb41 hE41 ho41
 have hszq41 : w.heap.size ≤ w38.heap.size := hsz
 have hbs_b41 : w.heap.size ≤ b41 := Nat.le_trans hsz hzl41
 replace hB := below_ext hB hE41 hsz
 replace hr15_0 := hr15_0.ext hE41
 replace hsz := Nat.le_trans hsz hE41.size
 refine l_o (o_call Tryz.call24 rfl (same_ret _ _ [0] _ _ [0] _ hr15_0 (by decide) (Row.of_owns ho41) (by decide)) rfl ?_)
 rintro _ w42 ⟨rfl, hE42⟩
 replace hB := below_ext hB hE42 hsz
 replace hsz := Nat.le_trans hsz hE42.size
 refine l_q (q_pick_t (v := .bool _) rfl rfl rfl) (l_q (qab rfl rfl) (l_nil (r_forget [(0, .bool _)] ⟨rfl, trivial⟩ (fun e43 => (r_ret_ (vs := [.bool _]) rfl Tryz.func18 rfl (.nil _) ⟨rfl, trivial⟩ ?_)))))
 exact ⟨vbool_eq (by decide), Ext.of_below hB⟩
end Go.Proofs.YtekkdhpgcilpdaaGreat
