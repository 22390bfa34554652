/- Contracts. -/
import Derived.Test.YtekkdhpgcilpdaaGreatM25
import Derived.Test.YtekkdhpgcilpdaaGreatF24
set_option linter.unusedVariables false
set_option linter.unusedSimpArgs false
namespace Go.Proofs.YtekkdhpgcilpdaaGreat
open Go Go.RowKit Go.Gv Go.Fl
/-! ### Records that truly came -/
def HapR (l : Lg) (N : List RC) (Y : List Int) : Prop := N.length = Y.length ∧ (∀ r ∈ N, okRC l.se.length r = true) ∧ ∀ j, j < N.length → Y.getD j 0 ∈ bys l.J.length ∧ (if Y.getD j 0 = -1 then falB l (N.getD j rcd0) else ownB l (N.getD j rcd0) (l.J.getD (Y.getD j 0).toNat sn0)) = true ∧ ∀ q, q < N.length → q ≠ j → Y.getD q 0 = Y.getD j 0 → Y.getD j 0 = -1
section
variable {l : Lg} {N : List RC} {Y : List Int} {r : RC} {b : Int}
theorem hap_nil : HapR l [] [] := ⟨rfl, (fun r hr => by cases hr), fun j hj => absurd hj (Nat.not_lt_zero _)⟩
theorem snocY_lt {j : Nat} (h : j < Y.length) : (Y ++ [b]).getD j 0 = Y.getD j 0 := by rw [List.getD_eq_getElem?_getD, List.getElem?_append_left h, ← List.getD_eq_getElem?_getD]
theorem snocY_eq {j : Nat} (h : j = Y.length) : (Y ++ [b]).getD j 0 = b := by rw [h, List.getD_eq_getElem?_getD, List.getElem?_append_right (Nat.le_refl _), Nat.sub_self]; rfl
theorem snocN_lt {j : Nat} (h : j < N.length) : (N ++ [r]).getD j rcd0 = N.getD j rcd0 := by rw [List.getD_eq_getElem?_getD, List.getElem?_append_left h, ← List.getD_eq_getElem?_getD]
theorem snocN_eq {j : Nat} (h : j = N.length) : (N ++ [r]).getD j rcd0 = r := by rw [h, List.getD_eq_getElem?_getD, List.getElem?_append_right (Nat.le_refl _), Nat.sub_self]; rfl
theorem hap_snoc (h : HapR l N Y) (hr : okRC l.se.length r = true) (hb : b ∈ bys l.J.length) (hc : (if b = -1 then falB l r else ownB l r (l.J.getD b.toNat sn0)) = true) (hf : b = -1 ∨ hasI Y b = false) : HapR l (N ++ [r]) (Y ++ [b]) := by
  obtain ⟨h1, h2, h3⟩ := h
  have hno : ∀ q, q < N.length → Y.getD q 0 = b → b = -1 := fun q hq he => hf.elim id (fun h4 => by
    exfalso
    rw [← Bool.not_eq_true, has_iff] at h4
    exact h4 (by rw [← he]; exact getD_lt (by omega)))
  refine ⟨by simp [h1], fun x hx => ?_, fun j hj => ?_⟩
  · rcases List.mem_append.1 hx with hx | hx
    · exact h2 x hx
    · rw [List.mem_singleton.1 hx]; exact hr
  · rw [List.length_append, List.length_singleton] at hj
    rcases Nat.lt_succ_iff_lt_or_eq.1 hj with hj | hj
    · obtain ⟨g1, g2, g3⟩ := h3 j hj
      rw [snocY_lt (by omega), snocN_lt hj]
      refine ⟨g1, g2, fun q hq hne he => ?_⟩
      rw [List.length_append, List.length_singleton] at hq
      rcases Nat.lt_succ_iff_lt_or_eq.1 hq with hq | hq
      · rw [snocY_lt (by omega)] at he; exact g3 q hq hne he
      · rw [snocY_eq (by omega)] at he
        rw [← he]; exact hno j hj he.symm
    · rw [snocY_eq (by omega), snocN_eq hj]
      refine ⟨hb, hc, fun q hq hne he => ?_⟩
      rw [List.length_append, List.length_singleton] at hq
      have hq2 : q < N.length := by omega
      rw [snocY_lt (by omega)] at he
      exact hno q hq2 he
theorem hap_ok (h0 : faultM l = 0) (h : HapR l N Y) (hn : N.length ≤ 6) : faultM (withR l N) = 0 := withR_ok h0 hn h.2.1
theorem hap_can {k : Nat} : canB (withR l N) k b = if b = -1 then falB l (N.getD k rcd0) else ownB l (N.getD k rcd0) (l.J.getD b.toNat sn0) := by
  obtain ⟨co, er, se, J, R⟩ := l
  unfold canB withR
  rfl
theorem hap_asg (h : HapR l N Y) : Y ∈ asgM (withR l N) noB := by
  obtain ⟨h1, _, h3⟩ := h
  show Y ∈ allF (canB (withR l N)) l.J.length noB N.length []
  refine mem_asg.2 ⟨h1.symm, fun j hj => ?_⟩
  obtain ⟨g1, g2, g3⟩ := h3 j hj
  exact ⟨g1, by rw [hap_can]; exact g2, g3⟩
theorem best_min (h0 : faultM l = 0) (h : Y ∈ asgM l noB) : fals (bestM l) ≤ fals Y ∧ (fals Y = fals (bestM l) → ¬ cmpV Y (bestM l) < 0) := by
  have hr := (lg_ok h0).2.2.1
  have h1 := (few_never (can := canB l) (m := l.J.length) (out := noB) (k := l.R.length) (p := []) (by omega)).2 (List.ne_nil_of_mem h)
  obtain ⟨_, h3, h4⟩ := ext_spec (can := canB l) (m := l.J.length) (k := l.R.length) (p := []) (by omega) rfl h1
  have h5 := (few_spec (can := canB l) (m := l.J.length) (out := noB) (k := l.R.length) (p := []) (by omega)).1 Y h
  have e : bestM l = extF (canB l) l.J.length l.R.length [] (fewF (canB l) l.J.length noB l.R.length []) := rfl
  rw [← e] at h3 h4
  refine ⟨by omega, fun he hlt => ?_⟩
  rcases h4 Y h (by omega) with h6 | h6
  · rw [h6, cmpV_self] at hlt; exact absurd hlt (by decide)
  · have h7 := lexLt_asymm h6
    rw [lex_cmp.2 hlt] at h7; cases h7
theorem mis_reads {t : List Int} {out : Sg} {ys : List Int} {n : Int} (hm : Mis (signs l.co t) l.er out ys n) (he : l.er ≤ 3) : readsB l t out = true := by
  obtain ⟨_, _, _, h4, h5, h6⟩ := hm
  have h7 := fe_le (doS_ex h4)
  unfold readsB
  rw [decide_eq_true_eq]
  omega
theorem mis_sf {s0 : Sg} {er : Int} {out : Sg} {ys : List Int} {n : Int} (hm : Mis s0 er out ys n) (hl : ¬ 40 < (out.length : Int)) : signsFault out [] = 0 := by
  unfold signsFault
  rw [if_neg (by simp; omega), if_pos (by rw [hm.1]; rfl)]
end
section
variable {co : List Sg} {er : Int} {se : List Int} {sl : List SN} {rl N : List RC} {Y tx : List Int} {s0 : SN} {jn : Nat} {fb hh n : Int} {out : Sg} {ys : List Int}
/-- what a record came from -/
def FromB (l : Lg) (s0 : SN) (jn : Nat) (Y tx : List Int) (hh fb : Int) : Prop := (fb = -1 ∧ tx ∈ textsL l hh ∧ 0 ≤ hh ∧ hh ≤ 23) ∨ (fb = (jn : Int) ∧ tx = s0.xs ∧ hh = s0.h ∧ hasI Y fb = false)
theorem from_text (h : FromB (lg co er se sl rl) s0 jn Y tx hh fb) (hok : faultM (lg co er se sl rl) = 0) (hs : s0 = sl.getD jn sn00) (hj : jn < sl.length) : 0 < tx.length ∧ tx.length ≤ 5 ∧ isText co tx = true := by
  obtain ⟨_, _, _, _, _, _, hJn, _⟩ := lg_ok hok
  rcases h with ⟨_, h2, _⟩ | ⟨_, h2, _⟩
  · obtain ⟨s, hs, _, h5⟩ := mem_texts.1 h2
    obtain ⟨_, _, ⟨_, h6⟩, h7⟩ := hJn s hs
    have h8 := h5
    obtain ⟨h9, lo, h10, _⟩ := h5
    exact ⟨h9, by omega, sub_text h8 h7⟩
  · have := sn_of hJn hj
    rw [h2, hs]
    exact ⟨this.2.2.1.1, this.2.2.1.2, this.2.2.2⟩
theorem from_snoc (h : FromB (lg co er se sl rl) s0 jn Y tx hh fb) (hok : faultM (lg co er se sl rl) = 0) (hs : s0 = sl.getD jn sn00) (hj : jn < sl.length) (hH : HapR (lg co er se sl rl) N Y) (hm : Mis (signs co tx) er out ys n) (hl : ¬ 40 < (out.length : Int)) : HapR (lg co er se sl rl) (N ++ [⟨hh, s0.st, out⟩]) (Y ++ [fb]) := by
  obtain ⟨_, _, _, _, her, _, hJn, _⟩ := lg_ok hok
  have hsn := sn_of hJn hj
  rw [← hs] at hsn
  have hrd : readsB (lg co er se sl rl) tx out = true := mis_reads (l := lg co er se sl rl) hm her.2
  have hJl : (lg co er se sl rl).J.length = sl.length := lgJ
  rcases h with ⟨h1, h2, h3, h4⟩ | ⟨h1, h2, h3, h4⟩
  · refine hap_snoc hH (okrc_iff.2 ⟨⟨h3, h4⟩, hsn.2.1, mis_sf hm hl⟩) (mem_bys.2 (by omega)) ?_ (.inl h1)
    rw [if_pos h1]
    unfold falB
    exact List.any_eq_true.2 ⟨tx, (ded_sort.2 tx).1 h2, hrd⟩
  · refine hap_snoc hH (okrc_iff.2 ⟨by rw [h3]; exact hsn.1, hsn.2.1, mis_sf hm hl⟩) (mem_bys.2 (by omega)) ?_ (.inr h4)
    rw [if_neg (by omega), h1, Int.toNat_natCast, lgJ_at hj, ← hs]
    unfold ownB SN.pn
    rw [decide_eq_true h3.symm, decide_eq_true rfl, ← h2, hrd]; rfl
theorem hap_big (hb : LgBig co er se sl rl) (hH : HapR (lg co er se sl rl) N Y) (hn : N.length ≤ 6) : LgBig co er se sl N := ⟨hb.1, hb.2.1, hb.2.2.1, hb.2.2.2.1, by omega, fun r hr => by
  have h1 := sf_len (okrc_iff.1 (hH.2.1 r hr)).2.2
  omega⟩
theorem hap_all (hok : faultM (lg co er se sl rl) = 0) (hH : HapR (lg co er se sl rl) N Y) (hn : N.length ≤ 6) : faultM (lg co er se sl N) = 0 ∧ Y ∈ asgM (lg co er se sl N) noB ∧ Y.length = N.length ∧ verdW (lg co er se sl N) = ((List.range N.length).map (verdV (lg co er se sl N)), 0) ∧ assignM (lg co er se sl N) = (bestM (lg co er se sl N), 0) ∧ leavW (lg co er se sl N) = ([], 0) ∧ bestM (lg co er se sl N) ∈ asgM (lg co er se sl N) noB := by
  have h1 : faultM (lg co er se sl N) = 0 := hap_ok hok hH hn
  have h2 : Y ∈ asgM (lg co er se sl N) noB := hap_asg hH
  have h3 := List.ne_nil_of_mem h2
  obtain ⟨h4, h5⟩ := asg_some h1 h3
  refine ⟨h1, h2, hH.1.symm, verd_some h1 h3, h4, ?_, h5⟩
  have h6 : leaveM (lg co er se sl N) = [] := (leave_nil (l := lg co er se sl N) (by show N.length ≤ 1000; omega)).2 h3
  unfold leavW
  rw [if_neg (fun h => h h1), h6]
end

theorem el111 : Elem Tryz.prog 111 (.int .u16 0) 1 2 := elem_of (by kernel_rfl) rfl (by decide)
theorem word6_ret (wa : Option Addr) (wc : Nat) (ws : List Int) (at_ : Int) (w : World) (hw : Row w wa ws.length wc 1 (ws.map (Value.int .u16))) (hwn : ws.length ≤ 2097152) (hwr : ∀ x ∈ ws, 0 ≤ x ∧ x ≤ 65535) (hat : 0 ≤ at_) : Ret Tryz.prog 79 [.slice wa ws.length wc, vint at_] w (fun v w' => ∃ x : Int, v = vint x ∧ 0 ≤ x ∧ x ≤ 65535 ∧ Ext w w') := by
 have hB := Below.refl w.heap.size w
 have hsz : w.heap.size ≤ w.heap.size := Nat.le_refl _
 refine ret_of_runs (args := [_, _]) Tryz.func79 rfl (Nat.le_of_ble_eq_true rfl) (by kernel_rfl) (r_seq (r_region' (l_q (qai rfl rfl) (l_nil (r_seq (r_seq (r_region' (l_q (qms rfl rfl) (l_q (q_len rfl Tryz.underlying77 rfl rfl) (l_q (q_eql rfl rfl rfl) (l_nil (r_cond rfl (fun hc1 => ?_) (fun hc1 => ?_)))))))))))))
 ·
  replace hc1 := dt hc1
  refine r_seq (r_region' (l_q (qai rfl rfl) (l_nil (r_ret_ (vs := [.int _ _]) rfl Tryz.func79 rfl (.nil _) ⟨rfl, trivial⟩ ?_))))
  exact ⟨0, rfl, by decide, by decide, Ext.of_below hB⟩
 ·
  replace hc1 := df hc1
  refine r_skip (r_seq ?_)
  have ha1 := Int.emod_nonneg at_ (show (ws.length : Int) ≠ 0 by omega)
  have ha2 := Int.emod_lt_of_pos at_ (show (0 : Int) < ws.length by omega)
  have hwx := hwr _ (getD_lt (l := ws) (d := 0) (i := (at_ % (ws.length : Int)).toNat) (by omega))
  refine r_region' (l_q (qms rfl rfl) (l_q (qmi rfl rfl) (l_q (qms rfl rfl) (l_q (q_len rfl Tryz.underlying77 rfl rfl) (l_q (q_rem rfl rfl (by omega) rfl) ?_)))))
  obtain ⟨b2, o2, ha2, hh2⟩ := (hw.below hB).at1 (at_ % (ws.length : Int)).toNat ((ws).getD (at_ % (ws.length : Int)).toNat 0) (getD_some (by omega))
  refine l_q (q_indexAddr1 Tryz.underlying77 Tryz.sizeOf111 rfl ha2 rfl (by omega) rfl) (l_q (q_load Tryz.isAgg111 rfl (hh2) rfl) (l_q (q_toInt Tryz.underlying111 Tryz.underlying3 rfl (by omega) rfl) (l_q (qai rfl rfl) (l_nil (r_forget [(4, .int _ _)] ⟨rfl, trivial⟩ (fun e3 => (r_ret_ (vs := [.int _ _]) rfl Tryz.func79 rfl (.nil _) ⟨rfl, trivial⟩ ?_)))))))
  exact ⟨_, rfl, hwx.1, hwx.2, Ext.of_below hB⟩
set_option maxHeartbeats 2000000 in
theorem happened_ret (ka : Option Addr) (kc : Nat) (co : List Sg) (er : Int) (sa : Option Addr) (sc : Nat) (se : List Int) (ja : Option Addr) (jc : Nat) (sl : List SN) (ra : Option Addr) (rc : Nat) (rl : List RC) (wa : Option Addr) (wc : Nat) (ws : List Int) (mn : Int) (w : World) (hlg : LgAt w ka kc co sa sc se ja jc sl ra rc rl) (hbg : LgBig co er se sl rl) (hw : Row w wa ws.length wc 1 (ws.map (Value.int .u16))) (hwn : ws.length ≤ 2097152) (hwr : ∀ x ∈ ws, 0 ≤ x ∧ x ≤ 65535) (hok : faultM (lg co er se sl rl) = 0) (hmn : 0 ≤ mn ∧ mn ≤ 6) : Ret Tryz.prog 50 [.agg ⟨[.slice ka co.length kc, vint er, .slice sa se.length sc, .slice ja sl.length jc, .slice ra rl.length rc]⟩, .slice wa ws.length wc, vint mn] w (fun v w' => ∃ ra2 rc2 N ya yc Y, v = .tuple ⟨[.agg ⟨[.slice ka co.length kc, vint er, .slice sa se.length sc, .slice ja sl.length jc, .slice ra2 (List.length N) rc2]⟩, .slice ya (List.length Y) yc]⟩ ∧ w'.ownsRow w.heap.size 61 3 (.slice ra2 (List.length N) rc2) (List.length N) (N.flatMap RC.enc) ∧ w'.ownsRow w.heap.size 3 1 (.slice ya (List.length Y) yc) (List.length Y) (Y.map vint) ∧ HapR (lg co er se sl rl) N Y ∧ (List.length N : Int) ≤ mn ∧ Ext w w') := by
 obtain ⟨⟨hcn, hcl⟩, hen, hsn, ⟨hjn, hjl⟩, hrn, hrl⟩ := id hbg
 obtain ⟨⟨hs1, hs4⟩, hj8, hr6, hf0, ⟨he0, he3⟩, hsr, hJn, hRn⟩ := lg_ok hok
 have hB := Below.refl w.heap.size w
 have hsz : w.heap.size ≤ w.heap.size := Nat.le_refl _
 refine ret_of_runs (args := [_, _, _]) Tryz.func50 rfl (Nat.le_of_ble_eq_true rfl) (by kernel_rfl) (r_seq (r_region' (l_o (o_boxt rfl rfl rfl ?_))))
 intro b1 w1 hzl1 hzr1 _ hb1 hty_b1 hE1
 have hbs_b1 : w.heap.size ≤ b1 := Nat.le_trans hsz hzl1
 replace hB := below_ext hB hE1 hsz
 replace hsz := Nat.le_trans hsz hE1.size
 refine l_o (o_alloct Tryz.zeroValue29 rfl rfl ?_)
 intro b2 w2 hzl2 hzr2 _ hb2 hty_b2 hE2
 have hne_b1_b2 : b1 ≠ b2 := by have := hb1.lt; omega
 have hbs_b2 : w.heap.size ≤ b2 := Nat.le_trans hsz hzl2
 replace hB := below_ext hB hE2 hsz
 replace hb1 := hb1.ext hE2
 replace hty_b1 := hty_b1.ext hE2
 replace hsz := Nat.le_trans hsz hE2.size
 refine l_q (qas rfl rfl) (l_nil (r_seq (r_region' (l_q (qas rfl rfl) (l_nil (r_seq (r_region' (l_q (qas rfl rfl) (l_nil (r_seq (r_seq (r_region' (l_q (qai rfl rfl) (l_nil (r_block ?_)))))))))))))))
 refine r_rounds (α := Nat × (Option Addr) × Nat × (List RC) × (Option Addr) × Nat × (List Int)) (fun ⟨r, oa, oc, N, ya, yc, Y⟩ e wl => Knows e [(1, .slice wa ws.length wc), (2, vint mn), (3, ptr b1 0), (6, ptr b2 0), (8, .slice oa N.length oc), (9, .slice ya ((Y).length) yc), (10, vint (r : Int))] ∧ (r ≤ mn.toNat) ∧ (HapR (lg co er se sl rl) N Y) ∧ (N.length ≤ r) ∧ (Y.length = N.length) ∧ (wl.ownsRow w.heap.size 61 3 (.slice oa N.length oc) N.length (N.flatMap RC.enc)) ∧ (wl.ownsRow w.heap.size 3 1 (.slice ya ((Y).length) yc) ((Y).length) ((Y).map vint)) ∧ (Blk wl b1 [.slice ka co.length kc, vint er, .slice sa se.length sc, .slice ja sl.length jc, .slice ra rl.length rc]) ∧ (TyAt wl b1 29) ∧ (Blk wl b2 [.slice none 0 0, vint 0, .slice none 0 0, .slice none 0 0, .slice none 0 0]) ∧ (TyAt wl b2 29) ∧ (w.heap.size ≤ wl.heap.size) ∧ (Below w.heap.size w wl)) (fun ⟨r, oa, oc, N, ya, yc, Y⟩ => mn.toNat - r) (0, none, 0, [], none, 0, []) ?_ ?_
 ·
  exact ⟨⟨rfl, rfl, rfl, rfl, rfl, rfl, rfl, trivial⟩, (Nat.zero_le _), hap_nil, (Nat.zero_le _), rfl, (World.ownsRow_nil _ _ _ _), (World.ownsRow_nil _ _ _ _), hb1, hty_b1, hb2, hty_b2, hsz, hB⟩
 ·
  rintro ⟨r, oa, oc, N, ya, yc, Y⟩ el3 wl3 ⟨hkn, hr, hH, hNl, hYl, hor, hoy, hb1, hty_b1, hb2, hty_b2, hsz, hB⟩ ih3
  obtain ⟨e3, rfl⟩ := knows_env hkn
  refine r_seq (r_seq (r_region' (l_q (qmi rfl rfl) (l_q (qmi rfl rfl) (l_q (q_lss rfl rfl rfl) (l_q (qmb rfl rfl) (l_part 25 rfl (fun hc4 => ?_) (fun hc4 => ?_))))))))
  ·
   replace hc4 := dt hc4
   refine l_q (q_fieldAddr (o' := 3) rfl fld29_3 rfl) (l_q (q_load Tryz.isAgg26 rfl ((hb1.has (o := 3) rfl)) rfl) (l_q (q_len rfl Tryz.underlying26 rfl rfl) (l_q (q_gtr rfl rfl rfl) (l_q (q_pick_t (v := .bool _) rfl rfl rfl) (l_nil (r_cond rfl (fun hc5 => ?_) (fun hc5 => ?_)))))))
   ·
    replace hc5 := dt hc5
    have hsl0 : 0 < sl.length := by omega
    refine r_skip (r_seq (r_block (r_seq (r_region' (l_q (qms rfl rfl) (l_q (qmi rfl rfl) (l_q (q_mul rfl rfl (by omega) rfl) (l_o (o_call Tryz.call79 rfl (word6_ret _ _ ws (3 * (r : Int)) _ (hw.below hB) hwn hwr (by omega)) rfl ?_)))))))))
    rintro _ w6 ⟨xw0, rfl, hxa0, hxb0, hE6⟩
    replace hB := below_ext hB hE6 hsz
    replace hb1 := hb1.ext hE6
    replace hty_b1 := hty_b1.ext hE6
    replace hb2 := hb2.ext hE6
    replace hty_b2 := hty_b2.ext hE6
    replace hor := own_ext hor hE6
    replace hoy := own_ext hoy hE6
    replace hsz := Nat.le_trans hsz hE6.size
    refine l_q (qai rfl rfl) (l_nil (r_forget [(1, .slice _ _ _), (2, .int _ _), (3, .pointer _), (6, .pointer _), (8, .slice _ _ _), (9, .slice _ _ _), (10, .int _ _), (11, .int _ _)] ⟨rfl, rfl, rfl, rfl, rfl, rfl, rfl, rfl, trivial⟩ (fun e7 => (r_seq ?_))))
    have hq1 := Int.emod_nonneg xw0 (show (sl.length : Int) ≠ 0 by omega)
    have hq2 := Int.emod_lt_of_pos xw0 (show (0 : Int) < sl.length by omega)
    obtain ⟨jn, hjn⟩ : ∃ jn : Nat, xw0 % (sl.length : Int) = (jn : Int) := ⟨_, (Int.toNat_of_nonneg hq1).symm⟩
    have hjl2 : jn < sl.length := by omega
    refine r_draw ext_refl' ext_trans' [0, 1, 2, 3, 4, 5, 6, 7, 8, 9, 10] [9, 10, 1010] 8 (by kernel_rfl) (by kernel_rfl) ?_
    intro w8 _ hE8
    replace hB := below_ext hB hE8 hsz
    replace hb1 := hb1.ext hE8
    replace hty_b1 := hty_b1.ext hE8
    replace hb2 := hb2.ext hE8
    replace hty_b2 := hty_b2.ext hE8
    replace hor := own_ext hor hE8
    replace hoy := own_ext hoy hE8
    replace hsz := Nat.le_trans hsz hE8.size
    refine m_q rfl rfl (fun w' hC' => q_fieldAddr (o' := 3) rfl fld29_3 rfl) (m_q rfl rfl (fun w' hC' => q_load Tryz.isAgg26 rfl (((hb1.has (o := 3) rfl).ext hC')) rfl) (m_q rfl rfl (fun w' hC' => qmi rfl rfl) (m_q rfl rfl (fun w' hC' => q_fieldAddr (o' := 3) rfl fld29_3 rfl) (m_q rfl rfl (fun w' hC' => q_load Tryz.isAgg26 rfl (((hb1.has (o := 3) rfl).ext hC')) rfl) (m_q rfl rfl (fun w' hC' => q_len rfl Tryz.underlying26 rfl rfl) (m_q rfl rfl (fun w' hC' => q_rem rfl rfl (by omega) rfl) ?_))))))
    obtain ⟨b9, o9, ha9, hh9⟩ := (hlg.rsl.below hB).at (by decide) (xw0 % (sl.length : Int)).toNat (by omega)
    refine m_q rfl rfl (fun w' hC' => q_indexAddr Tryz.underlying26 Tryz.sizeOf69 rfl ha9 rfl (by omega) rfl) (m_q rfl rfl (fun w' hC' => q_load_agg (cs := [vint (((sl).getD (xw0 % (sl.length : Int)).toNat sn00).h), vint (((sl).getD (xw0 % (sl.length : Int)).toNat sn00).st), .slice (((sl).getD (xw0 % (sl.length : Int)).toNat sn00).a) (((sl).getD (xw0 % (sl.length : Int)).toNat sn00).xs.length) (((sl).getD (xw0 % (sl.length : Int)).toNat sn00).c)]) (n := 3) Tryz.isAgg69 Tryz.sizeOf69 rfl (((cells_cast (wide_at SN.len sn00 _ _ (by omega)) hh9).ext hC')) rfl rfl) (m_o rfl rfl (o_alloct Tryz.zeroValue69 rfl rfl ?_)))
    intro b10 w10 hzl10 hzr10 _ hb10 hty_b10 hE10
    refine ⟨hE10, ?_⟩
    have hne_b1_b10 : b1 ≠ b10 := by have := hb1.lt; omega
    have hne_b2_b10 : b2 ≠ b10 := by have := hb2.lt; omega
    have hbs_b10 : w.heap.size ≤ b10 := Nat.le_trans hsz hzl10
    replace hB := below_ext hB hE10 hsz
    replace hb1 := hb1.ext hE10
    replace hty_b1 := hty_b1.ext hE10
    replace hb2 := hb2.ext hE10
    replace hty_b2 := hty_b2.ext hE10
    replace hor := own_ext hor hE10
    replace hoy := own_ext hoy hE10
    replace hsz := Nat.le_trans hsz hE10.size
    refine m_last rfl rfl rfl (o_storet (vs := [vint (((sl).getD (xw0 % (sl.length : Int)).toNat sn00).h), vint (((sl).getD (xw0 % (sl.length : Int)).toNat sn00).st), .slice (((sl).getD (xw0 % (sl.length : Int)).toNat sn00).a) (((sl).getD (xw0 % (sl.length : Int)).toNat sn00).xs.length) (((sl).getD (xw0 % (sl.length : Int)).toNat sn00).c)]) (cs' := [vint (((sl).getD (xw0 % (sl.length : Int)).toNat sn00).h), vint (((sl).getD (xw0 % (sl.length : Int)).toNat sn00).st), .slice (((sl).getD (xw0 % (sl.length : Int)).toNat sn00).a) (((sl).getD (xw0 % (sl.length : Int)).toNat sn00).xs.length) (((sl).getD (xw0 % (sl.length : Int)).toNat sn00).c)]) Tryz.sizeOf69 rfl rfl rfl rfl hb10 (Nat.le_of_ble_eq_true rfl) rfl rfl ?_)
    intro w11 hz11 hb10 hT11 hG11
    replace hB := below_upd hB hG11 hsz (by omega)
    replace hsz : w.heap.size ≤ w11.heap.size := by rw [hz11]; exact hsz
    replace hb1 := hb1.upd hG11 (by omega)
    replace hty_b1 := hty_b1.upd hG11 (by omega)
    replace hb2 := hb2.upd hG11 (by omega)
    replace hty_b2 := hty_b2.upd hG11 (by omega)
    replace hor := own_ty_upd hor hty_b10 hG11 (by decide)
    replace hoy := own_ty_upd hoy hty_b10 hG11 (by decide)
    replace hty_b10 := hT11 _ hty_b10
    refine m_nil (r_seq ?_)
    obtain ⟨SN0, hSN⟩ : ∃ z, z = sl.getD jn sn00 := ⟨_, rfl⟩
    have hrS : Row w SN0.a SN0.xs.length SN0.c 1 (SN0.xs.map vint) := by rw [hSN]; exact hlg.rslr.get hjl2
    replace hb10 : Blk w11 b10 [vint SN0.h, vint SN0.st, .slice SN0.a SN0.xs.length SN0.c] := by rw [hSN]; have h := hb10; rw [hjn, Int.toNat_natCast] at h; exact h
    have hsx := sn_of hJn hjl2
    rw [← hSN] at hsx
    refine r_draw ext_refl' ext_trans' [0, 1, 2, 3, 4, 5, 6, 7, 8, 9, 10, 11] [] 8 (by kernel_rfl) (by kernel_rfl) ?_
    intro w12 _ hE12
    replace hB := below_ext hB hE12 hsz
    replace hb1 := hb1.ext hE12
    replace hty_b1 := hty_b1.ext hE12
    replace hb2 := hb2.ext hE12
    replace hty_b2 := hty_b2.ext hE12
    replace hor := own_ext hor hE12
    replace hoy := own_ext hoy hE12
    replace hb10 := hb10.ext hE12
    replace hty_b10 := hty_b10.ext hE12
    replace hsz := Nat.le_trans hsz hE12.size
    refine m_q rfl rfl (fun w' hC' => q_fieldAddr (o' := 2) rfl fld69_2 rfl) (m_q rfl rfl (fun w' hC' => q_load Tryz.isAgg25 rfl (((hb10.has (o := 2) rfl).ext hC')) rfl) (m_q rfl rfl (fun w' hC' => q_fieldAddr (o' := 0) rfl fld69_0 rfl) (m_q rfl rfl (fun w' hC' => q_load Tryz.isAgg3 rfl (((hb10.has (o := 0) rfl).ext hC')) rfl) (m_q rfl rfl (fun w' hC' => qmi rfl rfl) (m_q rfl rfl (fun w' hC' => q_fieldAddr (o' := 3) rfl fld29_3 rfl) (m_q rfl rfl (fun w' hC' => q_load Tryz.isAgg26 rfl (((hb1.has (o := 3) rfl).ext hC')) rfl) (m_q rfl rfl (fun w' hC' => q_len rfl Tryz.underlying26 rfl rfl) (m_q rfl rfl (fun w' hC' => q_rem rfl rfl (by omega) rfl) (m_q rfl rfl (fun w' hC' => qas rfl rfl) (m_q rfl rfl (fun w' hC' => qai rfl rfl) (m_q rfl rfl (fun w' hC' => qai rfl rfl) (m_nil ?_))))))))))))
    refine r_forget [(1, .slice _ _ _), (2, .int _ _), (3, .pointer _), (6, .pointer _), (8, .slice _ _ _), (9, .slice _ _ _), (10, .int _ _), (11, .int _ _), (12, .pointer _), (13, .slice _ _ _), (14, .int _ _), (15, .int _ _)] ⟨rfl, rfl, rfl, rfl, rfl, rfl, rfl, rfl, rfl, rfl, rfl, rfl, trivial⟩ (fun e13 => (r_seq ?_))
    refine r_ifj (α := (Option Addr) × Nat × (List Int) × Int × Int) (fun ⟨ta, tc, tx, hh, fb⟩ e wl => Knows e [(1, .slice wa ws.length wc), (2, vint mn), (3, ptr b1 0), (6, ptr b2 0), (8, .slice oa N.length oc), (9, .slice ya ((Y).length) yc), (10, vint (r : Int)), (12, ptr b10 0), (13, .slice ta ((tx).length) tc), (14, vint hh), (15, vint fb)] ∧ (FromB (lg co er se sl rl) SN0 jn Y tx hh fb) ∧ (Row wl ta ((tx).length) tc 1 ((tx).map vint)) ∧ (Blk wl b1 [.slice ka co.length kc, vint er, .slice sa se.length sc, .slice ja sl.length jc, .slice ra rl.length rc]) ∧ (TyAt wl b1 29) ∧ (Blk wl b2 [.slice none 0 0, vint 0, .slice none 0 0, .slice none 0 0, .slice none 0 0]) ∧ (TyAt wl b2 29) ∧ (wl.ownsRow w.heap.size 61 3 (.slice oa N.length oc) N.length (N.flatMap RC.enc)) ∧ (wl.ownsRow w.heap.size 3 1 (.slice ya ((Y).length) yc) ((Y).length) ((Y).map vint)) ∧ (Blk wl b10 [vint SN0.h, vint SN0.st, .slice SN0.a SN0.xs.length SN0.c]) ∧ (TyAt wl b10 69) ∧ (w.heap.size ≤ wl.heap.size) ∧ (Below w.heap.size w wl)) ?_ ?_
    ·
     rintro ⟨ta, tc, tx, hh, fb⟩ el14 wl14 ⟨hkn, hfr, htx, hb1, hty_b1, hb2, hty_b2, hor, hoy, hb10, hty_b10, hsz, hB⟩
     obtain ⟨e14, rfl⟩ := knows_env hkn
     refine r_seq ?_
     obtain ⟨htx0, htx5, htxt⟩ := from_text hfr hok hSN hjl2
     have htl : tx ≠ [] → ∀ x, ta = some x → x.block < wl14.heap.size := fun h => row_lt_ htx h
     have hszW : wl14.heap.size ≤ wl14.heap.size := Nat.le_refl _
     have hszW0 : w.heap.size ≤ wl14.heap.size := hsz
     refine r_region' (l_q (qms rfl rfl) (l_q (qmi rfl rfl) (l_q (q_mul rfl rfl (by omega) rfl) (l_q (q_add rfl rfl (by omega) rfl) (l_o (o_call Tryz.call79 rfl (word6_ret _ _ ws ((3 * (r : Int)) + 2) _ (hw.below hB) hwn hwr (by omega)) rfl ?_))))))
     rintro _ w15 ⟨xw2, rfl, hxa2, hxb2, hE15⟩
     replace hB := below_ext hB hE15 hsz
     replace hb1 := hb1.ext hE15
     replace hty_b1 := hty_b1.ext hE15
     replace hb2 := hb2.ext hE15
     replace hty_b2 := hty_b2.ext hE15
     replace hor := own_ext hor hE15
     replace hoy := own_ext hoy hE15
     replace hb10 := hb10.ext hE15
     replace hty_b10 := hty_b10.ext hE15
     replace htx := htx.ext hE15
     replace hszW := Nat.le_trans hszW hE15.size
     replace hsz := Nat.le_trans hsz hE15.size
     refine l_q (qai rfl rfl) (l_nil (r_seq (r_region' (l_q (qas rfl rfl) (l_nil (r_seq (r_seq (r_region' (l_q (qai rfl rfl) (l_nil (r_block ?_)))))))))))
     refine r_rounds (α := Nat × (Option Addr) × Nat × (List Int)) (fun ⟨i, za, zc, zs⟩ e wl => Knows e [(1, .slice wa ws.length wc), (2, vint mn), (3, ptr b1 0), (6, ptr b2 0), (8, .slice oa N.length oc), (9, .slice ya ((Y).length) yc), (10, vint (r : Int)), (12, ptr b10 0), (13, .slice ta ((tx).length) tc), (14, vint hh), (15, vint fb), (17, vint xw2), (18, .slice za ((zs).length) zc), (19, vint (i : Int))] ∧ (i ≤ ws.length) ∧ (zs.length = i) ∧ (∀ x ∈ zs, 0 ≤ x ∧ x ≤ 65535) ∧ (wl.ownsRow wl14.heap.size 111 1 (.slice za ((zs).length) zc) ((zs).length) ((zs).map (Value.int .u16))) ∧ (Blk wl b1 [.slice ka co.length kc, vint er, .slice sa se.length sc, .slice ja sl.length jc, .slice ra rl.length rc]) ∧ (TyAt wl b1 29) ∧ (Blk wl b2 [.slice none 0 0, vint 0, .slice none 0 0, .slice none 0 0, .slice none 0 0]) ∧ (TyAt wl b2 29) ∧ (wl.ownsRow w.heap.size 61 3 (.slice oa N.length oc) N.length (N.flatMap RC.enc)) ∧ (wl.ownsRow w.heap.size 3 1 (.slice ya ((Y).length) yc) ((Y).length) ((Y).map vint)) ∧ (Blk wl b10 [vint SN0.h, vint SN0.st, .slice SN0.a SN0.xs.length SN0.c]) ∧ (TyAt wl b10 69) ∧ (Row wl ta ((tx).length) tc 1 ((tx).map vint)) ∧ (wl14.heap.size ≤ wl.heap.size) ∧ (w.heap.size ≤ wl.heap.size) ∧ (Below w.heap.size w wl)) (fun ⟨i, za, zc, zs⟩ => ws.length - i) (0, none, 0, []) ?_ ?_
     ·
      exact ⟨⟨rfl, rfl, rfl, rfl, rfl, rfl, rfl, rfl, rfl, rfl, rfl, rfl, rfl, rfl, trivial⟩, (Nat.zero_le _), rfl, (fun x hx => by cases hx), (World.ownsRow_nil _ _ _ _), hb1, hty_b1, hb2, hty_b2, hor, hoy, hb10, hty_b10, htx, hszW, hsz, hB⟩
     ·
      rintro ⟨i, za, zc, zs⟩ el16 wl16 ⟨hkn, hi, hzl, hzr, hoz, hb1, hty_b1, hb2, hty_b2, hor, hoy, hb10, hty_b10, htx, hszW, hsz, hB⟩ ih16
      obtain ⟨e16, rfl⟩ := knows_env hkn
      refine r_seq (r_seq (r_region' (l_q (qmi rfl rfl) (l_q (qms rfl rfl) (l_q (q_len rfl Tryz.underlying77 rfl rfl) (l_q (q_lss rfl rfl rfl) (l_nil (r_cond rfl (fun hc17 => ?_) (fun hc17 => ?_)))))))))
      ·
       replace hc17 := dt hc17
       have hiw : i < ws.length := by omega
       refine r_skip (r_seq (r_block ?_))
       have hp1 := Int.emod_nonneg ((i : Int) + xw2) (show (ws.length : Int) ≠ 0 by omega)
       have hp2 := Int.emod_lt_of_pos ((i : Int) + xw2) (show (0 : Int) < ws.length by omega)
       have hwx := hwr _ (getD_lt (l := ws) (d := 0) (i := (((i : Int) + xw2) % (ws.length : Int)).toNat) (by omega))
       refine r_region' (l_q (qms rfl rfl) (l_q (qms rfl rfl) (l_q (qmi rfl rfl) (l_q (qmi rfl rfl) (l_q (q_add rfl rfl (by omega) rfl) (l_q (qms rfl rfl) (l_q (q_len rfl Tryz.underlying77 rfl rfl) (l_q (q_rem rfl rfl (by omega) rfl) ?_))))))))
       obtain ⟨b18, o18, ha18, hh18⟩ := (hw.below hB).at1 (((i : Int) + xw2) % (ws.length : Int)).toNat ((ws).getD (((i : Int) + xw2) % (ws.length : Int)).toNat 0) (getD_some (by omega))
       refine l_q (q_indexAddr1 Tryz.underlying77 Tryz.sizeOf111 rfl ha18 rfl (by omega) rfl) (l_q (q_load Tryz.isAgg111 rfl (hh18) rfl) ?_)
       have hbl_b1 := hb1.lt
       have hbl_b2 := hb2.lt
       have hbl_b10 := hb10.lt
       refine l_o (o_buildSlice (el := 111) (cs := [.int .u16 ((ws).getD (((i : Int) + xw2) % (ws.length : Int)).toNat 0)]) Tryz.underlying77 el111 (by decide) (by kernel_rfl) rfl (by decide) rfl ?_)
       intro b19 w19 hzl19 hzr19 _ hb19 hE19 ho19
       have hne_b1_b19 : b1 ≠ b19 := by have := hb1.lt; omega
       have hne_b2_b19 : b2 ≠ b19 := by have := hb2.lt; omega
       have hne_b10_b19 : b10 ≠ b19 := by have := hb10.lt; omega
       have hbs_b19 : w.heap.size ≤ b19 := Nat.le_trans hsz hzl19
       have hWp_b19 := hszW
       have hbW_b19 := Nat.le_trans hszW hzl19
       replace hB := below_ext hB hE19 hsz
       replace hb1 := hb1.ext hE19
       replace hty_b1 := hty_b1.ext hE19
       replace hb2 := hb2.ext hE19
       replace hty_b2 := hty_b2.ext hE19
       replace hor := own_ext hor hE19
       replace hoy := own_ext hoy hE19
       replace hb10 := hb10.ext hE19
       replace hty_b10 := hty_b10.ext hE19
       replace htx := htx.ext hE19
       replace hszW := Nat.le_trans hszW hE19.size
       replace hoz := own_ext hoz hE19
       replace hsz := Nat.le_trans hsz hE19.size
       replace ho19 := own_mono ho19 (show wl14.heap.size ≤ _ by omega)
       have hbl_b1 := hb1.lt
       have hbl_b2 := hb2.lt
       have hbl_b10 := hb10.lt
       refine l_o (o_append_map (f := (Value.int .u16)) (zs) ([(ws).getD (((i : Int) + xw2) % (ws.length : Int)).toNat 0]) Tryz.underlying77 el111 rfl rfl hoz rfl (Row.of_owns ho19) (fun _ => rfl) (by (try simp only [List.length_append, List.length_cons, List.length_nil, List.length_take, List.length_drop, List.length_replicate]); omega) (by omega) rfl ?_)
       intro a20 c20 w20 hz20 ho20 hG20
       replace hB := below_own hB hG20 hoz (by omega) hsz
       replace hsz := Nat.le_trans hsz hG20.size
       replace hb1 := hb1.step hG20 (own_ty_ne hoz hty_b1 (by decide))
       replace hb2 := hb2.step hG20 (own_ty_ne hoz hty_b2 (by decide))
       replace hor := own_kept hor hoz (by decide) hG20
       replace hoy := own_kept hoy hoz (by decide) hG20
       replace hb10 := hb10.step hG20 (own_ty_ne hoz hty_b10 (by decide))
       replace htx := row_low htx hG20 htl (own_ge hoz (by omega))
       replace hszW := Nat.le_trans hszW hG20.size
       replace hty_b1 := TyAt.own hty_b1 hoz hG20 (by decide)
       replace hty_b2 := TyAt.own hty_b2 hoz hG20 (by decide)
       replace hty_b10 := TyAt.own hty_b10 hoz hG20 (by decide)
       refine l_q (qas rfl rfl) (l_nil (r_forget [(1, .slice _ _ _), (2, .int _ _), (3, .pointer _), (6, .pointer _), (8, .slice _ _ _), (9, .slice _ _ _), (10, .int _ _), (12, .pointer _), (13, .slice _ _ _), (14, .int _ _), (15, .int _ _), (17, .int _ _), (18, .slice _ _ _), (19, .int _ _)] ⟨rfl, rfl, rfl, rfl, rfl, rfl, rfl, rfl, rfl, rfl, rfl, rfl, rfl, rfl, trivial⟩ (fun e21 => (r_inBlock (r_region' (l_q (qmi rfl rfl) (l_q (q_add rfl rfl (by omega) rfl) (l_q (qai rfl rfl) (l_nil ?_)))))))))
       exact ih16 (i + 1, a20, c20, (zs ++ [(ws).getD (((i : Int) + xw2) % (ws.length : Int)).toNat 0])) _ _ ⟨⟨rfl, rfl, rfl, rfl, rfl, rfl, rfl, rfl, rfl, rfl, rfl, rfl, rfl, (vint_eq (by omega)), trivial⟩, (by omega), (by rw [List.length_append, hzl]; rfl), (fun x hx => by rcases List.mem_append.1 hx with h | h; exact hzr x h; rw [List.mem_singleton.1 h]; exact hwx), ho20, hb1, hty_b1, hb2, hty_b2, hor, hoy, hb10, hty_b10, htx, hszW, hsz, hB⟩ (by first | omega | (dsimp only; omega))
      ·
       replace hc17 := dlt hc17
       refine r_exit rfl (r_seq (r_draw ext_refl' ext_trans' [0, 1, 2, 4, 5, 6, 3, 7, 8, 9, 10, 11, 12] [3, 7] 8 (by kernel_rfl) (by kernel_rfl) ?_))
       intro w22 _ hE22
       replace hB := below_ext hB hE22 hsz
       replace hb1 := hb1.ext hE22
       replace hty_b1 := hty_b1.ext hE22
       replace hb2 := hb2.ext hE22
       replace hty_b2 := hty_b2.ext hE22
       replace hor := own_ext hor hE22
       replace hoy := own_ext hoy hE22
       replace hb10 := hb10.ext hE22
       replace hty_b10 := hty_b10.ext hE22
       replace htx := htx.ext hE22
       replace hszW := Nat.le_trans hszW hE22.size
       replace hoz := own_ext hoz hE22
       replace hsz := Nat.le_trans hsz hE22.size
       refine m_q rfl rfl (fun w' hC' => q_fieldAddr (o' := 0) rfl fld29_0 rfl) (m_q rfl rfl (fun w' hC' => q_load_agg (n := 1) Tryz.isAgg24 Tryz.sizeOf24 rfl (((hb1.cells' (cs' := [_]) 0 1 rfl).ext hC')) rfl rfl) (m_q rfl rfl (fun w' hC' => qms rfl rfl) (m_q rfl rfl (fun w' hC' => qms rfl rfl) (m_q rfl rfl (fun w' hC' => q_fieldAddr (o' := 1) rfl fld29_1 rfl) (m_q rfl rfl (fun w' hC' => q_load Tryz.isAgg3 rfl (((hb1.has (o := 1) rfl).ext hC')) rfl) (m_o rfl rfl (o_call Tryz.call81 rfl (refSigns_ret _ _ co _ _ tx _ (hlg.rco.below hB) (by omega) htx (by omega) hf0 htxt) rfl ?_)))))))
       rintro _ w23 ⟨rfl, hE23⟩
       refine ⟨hE23, ?_⟩
       replace hB := below_ext hB hE23 hsz
       replace hb1 := hb1.ext hE23
       replace hty_b1 := hty_b1.ext hE23
       replace hb2 := hb2.ext hE23
       replace hty_b2 := hty_b2.ext hE23
       replace hor := own_ext hor hE23
       replace hoy := own_ext hoy hE23
       replace hb10 := hb10.ext hE23
       replace hty_b10 := hty_b10.ext hE23
       replace hszW := Nat.le_trans hszW hE23.size
       replace hoz := own_ext hoz hE23
       replace hsz := Nat.le_trans hsz hE23.size
       have hsl := send_len hf0 htx5 htxt
       refine m_o rfl rfl (o_call Tryz.call80 rfl (misread_ret (signs co tx) za zc zs er _ hsl (signs_signs hf0 htxt) (Row.of_owns hoz) (by omega) hzr ⟨(lg_ok hok).2.2.2.2.1.1, Int.le_trans (lg_ok hok).2.2.2.2.1.2 (by decide)⟩) rfl ?_)
       rintro _ w24 ⟨mo, my, mn0, ma, mc, rfl, hmy, hmis, hE24⟩
       refine ⟨hE24, ?_⟩
       replace hB := below_ext hB hE24 hsz
       replace hb1 := hb1.ext hE24
       replace hty_b1 := hty_b1.ext hE24
       replace hb2 := hb2.ext hE24
       replace hty_b2 := hty_b2.ext hE24
       replace hor := own_ext hor hE24
       replace hoy := own_ext hoy hE24
       replace hb10 := hb10.ext hE24
       replace hty_b10 := hty_b10.ext hE24
       replace hszW := Nat.le_trans hszW hE24.size
       replace hsz := Nat.le_trans hsz hE24.size
       refine m_q rfl rfl (fun w' hC' => q_move (v := .tuple _) rfl rfl) (m_q rfl rfl (fun w' hC' => q_extract (vs := [_, _]) (v := .string _) rfl rfl rfl) (m_q rfl rfl (fun w' hC' => q_extract (vs := [_, _]) (v := .slice _ _ _) rfl rfl rfl) (m_q rfl rfl (fun w' hC' => q_assign (v := .string _) rfl rfl) (m_q rfl rfl (fun w' hC' => qas rfl rfl) (m_nil (r_forget [(1, .slice _ _ _), (2, .int _ _), (3, .pointer _), (6, .pointer _), (8, .slice _ _ _), (9, .slice _ _ _), (10, .int _ _), (12, .pointer _), (14, .int _ _), (15, .int _ _), (20, .string _)] ⟨rfl, rfl, rfl, rfl, rfl, rfl, rfl, rfl, rfl, rfl, rfl, trivial⟩ (fun e25 => (r_seq (r_seq (r_region' (l_q (q_move (v := .string _) rfl rfl) (l_q (q_len_str rfl Tryz.underlying9 rfl rfl) (l_q (q_gtr rfl rfl rfl) (l_nil (r_cond rfl (fun hc26 => ?_) (fun hc26 => ?_))))))))))))))))
       ·
        replace hc26 := dt hc26
        refine r_exit rfl (r_region' (l_q (qmi rfl rfl) (l_q (q_add rfl rfl (by omega) rfl) (l_q (qai rfl rfl) (l_nil ?_)))))
        exact ih3 (r + 1, oa, oc, N, ya, yc, Y) _ _ ⟨⟨rfl, rfl, rfl, rfl, rfl, rfl, (vint_eq (by omega)), trivial⟩, (by omega), hH, (by omega), hYl, hor, hoy, hb1, hty_b1, hb2, hty_b2, hsz, hB⟩ (by first | omega | (dsimp only; omega))
       ·
        replace hc26 := dlt hc26
        have g125 : ¬ 40 < (mo.length : Int) := by have := hc26; omega
        refine r_skip (r_region' (l_q (qms rfl rfl) (l_q (qmi rfl rfl) (l_q (q_fieldAddr (o' := 1) rfl fld69_1 rfl) (l_q (q_load Tryz.isAgg3 rfl ((hb10.has (o := 1) rfl)) rfl) (l_q (q_move (v := .string _) rfl rfl) (l_q (q_build (v := .agg ⟨[vint hh, vint SN0.st, vstr mo]⟩) (fun w => by kernel_rfl) rfl) ?_)))))))
        have hbl_b1 := hb1.lt
        have hbl_b2 := hb2.lt
        have hbl_b10 := hb10.lt
        refine l_o (o_buildSlice (el := 61) (cs := [vint hh, vint SN0.st, vstr mo]) Tryz.underlying27 el61 (by decide) (by kernel_rfl) rfl (by decide) rfl ?_)
        intro b27 w27 hzl27 hzr27 _ hb27 hE27 ho27
        have hne_b1_b27 : b1 ≠ b27 := by have := hb1.lt; omega
        have hne_b2_b27 : b2 ≠ b27 := by have := hb2.lt; omega
        have hne_b10_b27 : b10 ≠ b27 := by have := hb10.lt; omega
        have hbs_b27 : w.heap.size ≤ b27 := Nat.le_trans hsz hzl27
        have hWp_b27 := hszW
        have hbW_b27 := Nat.le_trans hszW hzl27
        replace hB := below_ext hB hE27 hsz
        replace hb1 := hb1.ext hE27
        replace hty_b1 := hty_b1.ext hE27
        replace hb2 := hb2.ext hE27
        replace hty_b2 := hty_b2.ext hE27
        replace hor := own_ext hor hE27
        replace hoy := own_ext hoy hE27
        replace hb10 := hb10.ext hE27
        replace hty_b10 := hty_b10.ext hE27
        replace hszW := Nat.le_trans hszW hE27.size
        replace hsz := Nat.le_trans hsz hE27.size
        replace ho27 := own_mono ho27 (show wl14.heap.size ≤ _ by omega)
        have hbl_b1 := hb1.lt
        have hbl_b2 := hb2.lt
        have hbl_b10 := hb10.lt
        refine l_o (o_append_wide RC.one (N) (([⟨hh, SN0.st, mo⟩] : List RC)) Tryz.underlying27 el61 rfl rfl hor rfl (Row.of_owns ho27) (by (try simp only [List.length_append, List.length_cons, List.length_nil, List.length_take, List.length_drop, List.length_replicate]); omega) (by omega) rfl ?_)
        intro a29 c29 w29 hz29 ho29 hG29
        replace hB := below_own hB hG29 hor (by omega) hsz
        replace hsz := Nat.le_trans hsz hG29.size
        replace hb1 := hb1.step hG29 (own_ty_ne hor hty_b1 (by decide))
        replace hb2 := hb2.step hG29 (own_ty_ne hor hty_b2 (by decide))
        replace hoy := own_kept hoy hor (by decide) hG29
        replace hb10 := hb10.step hG29 (own_ty_ne hor hty_b10 (by decide))
        replace hszW := Nat.le_trans hszW hG29.size
        replace hty_b1 := TyAt.own hty_b1 hor hG29 (by decide)
        replace hty_b2 := TyAt.own hty_b2 hor hG29 (by decide)
        replace hty_b10 := TyAt.own hty_b10 hor hG29 (by decide)
        refine l_q (qms rfl rfl) (l_q (qmi rfl rfl) ?_)
        have hbl_b1 := hb1.lt
        have hbl_b2 := hb2.lt
        have hbl_b10 := hb10.lt
        refine l_o (o_buildSlice (el := 3) (cs := [vint fb]) Tryz.underlying25 el3 (by decide) (by kernel_rfl) rfl (by decide) rfl ?_)
        intro b30 w30 hzl30 hzr30 _ hb30 hE30 ho30
        have hne_b1_b30 : b1 ≠ b30 := by have := hb1.lt; omega
        have hne_b2_b30 : b2 ≠ b30 := by have := hb2.lt; omega
        have hne_b10_b30 : b10 ≠ b30 := by have := hb10.lt; omega
        have hbs_b30 : w.heap.size ≤ b30 := Nat.le_trans hsz hzl30
        have hWp_b30 := hszW
        have hbW_b30 := Nat.le_trans hszW hzl30
        replace hB := below_ext hB hE30 hsz
        replace hb1 := hb1.ext hE30
        replace hty_b1 := hty_b1.ext hE30
        replace hb2 := hb2.ext hE30
        replace hty_b2 := hty_b2.ext hE30
        replace hoy := own_ext hoy hE30
        replace hb10 := hb10.ext hE30
        replace hty_b10 := hty_b10.ext hE30
        replace hszW := Nat.le_trans hszW hE30.size
        replace ho29 := own_ext ho29 hE30
        replace hsz := Nat.le_trans hsz hE30.size
        replace ho30 := own_mono ho30 (show wl14.heap.size ≤ _ by omega)
        have hbl_b1 := hb1.lt
        have hbl_b2 := hb2.lt
        have hbl_b10 := hb10.lt
        refine l_o (o_append_map (f := vint) (Y) ([fb]) Tryz.underlying25 el3 rfl rfl hoy rfl (Row.of_owns ho30) (fun _ => rfl) (by (try simp only [List.length_append, List.length_cons, List.length_nil, List.length_take, List.length_drop, List.length_replicate]); omega) (by omega) rfl ?_)
        intro a31 c31 w31 hz31 ho31 hG31
        replace hB := below_own hB hG31 hoy (by omega) hsz
        replace hsz := Nat.le_trans hsz hG31.size
        replace hb1 := hb1.step hG31 (own_ty_ne hoy hty_b1 (by decide))
        replace hb2 := hb2.step hG31 (own_ty_ne hoy hty_b2 (by decide))
        replace hb10 := hb10.step hG31 (own_ty_ne hoy hty_b10 (by decide))
        replace hszW := Nat.le_trans hszW hG31.size
        replace ho29 := own_kept ho29 hoy (by decide) hG31
        replace hty_b1 := TyAt.own hty_b1 hoy hG31 (by decide)
        replace hty_b2 := TyAt.own hty_b2 hoy hG31 (by decide)
        replace hty_b10 := TyAt.own hty_b10 hoy hG31 (by decide)
        refine l_q (qas rfl rfl) (l_q (qas rfl rfl) (l_nil (r_forget [(1, .slice _ _ _), (2, .int _ _), (3, .pointer _), (6, .pointer _), (8, .slice _ _ _), (9, .slice _ _ _), (10, .int _ _)] ⟨rfl, rfl, rfl, rfl, rfl, rfl, rfl, trivial⟩ (fun e32 => (r_inBlock (r_region' (l_q (qmi rfl rfl) (l_q (q_add rfl rfl (by omega) rfl) (l_q (qai rfl rfl) (l_nil ?_))))))))))
        exact ih3 (r + 1, a29, c29, (N ++ ([⟨hh, SN0.st, mo⟩] : List RC)), a31, c31, (Y ++ [fb])) _ _ ⟨⟨rfl, rfl, rfl, rfl, rfl, rfl, (vint_eq (by omega)), trivial⟩, (by omega), (from_snoc hfr hok hSN hjl2 hH hmis g125), (by rw [List.length_append, List.length_singleton]; omega), (by rw [List.length_append, List.length_append, hYl]; rfl), ho29, ho31, hb1, hty_b1, hb2, hty_b2, hsz, hB⟩ (by first | omega | (dsimp only; omega))
    · intro hj14
      refine r_seq (r_forget [(1, .slice _ _ _), (2, .int _ _), (3, .pointer _), (6, .pointer _), (8, .slice _ _ _), (9, .slice _ _ _), (10, .int _ _), (11, .int _ _), (12, .pointer _), (13, .slice _ _ _), (14, .int _ _), (15, vint (jn : Int))] ⟨rfl, rfl, rfl, rfl, rfl, rfl, rfl, rfl, rfl, rfl, rfl, vint_eq hjn, trivial⟩ (fun e33 => (r_region' (l_q (qmi rfl rfl) (l_q (q_quo rfl rfl (by omega) rfl) (l_q (q_rem rfl rfl (by omega) rfl) (l_q (q_eql rfl rfl rfl) (l_q (qmb rfl rfl) (l_part 59 rfl (fun hc34 => ?_) (fun hc34 => ?_))))))))))
      ·
       replace hc34 := dt hc34
       refine l_q (q_skip rfl) (l_q (q_skip rfl) (l_q (q_skip rfl) (l_q (q_pick_t (v := .bool _) rfl rfl rfl) (l_nil (r_cond_t rfl (r_seq (r_region' (l_q (q_fieldAddr (o' := 0) rfl fld69_0 rfl) (l_q (q_load Tryz.isAgg3 rfl ((hb10.has (o := 0) rfl)) rfl) (l_q (q_add rfl rfl (by omega) rfl) (l_q (qmi rfl rfl) (l_q (q_quo rfl rfl (by omega) rfl) (l_q (q_rem rfl rfl (by omega) rfl) (l_q (q_add rfl rfl (by omega) rfl) (l_q (q_min rfl rfl rfl) (l_q (qai rfl rfl) (l_nil (r_forget [(1, .slice _ _ _), (2, .int _ _), (3, .pointer _), (6, .pointer _), (8, .slice _ _ _), (9, .slice _ _ _), (10, .int _ _), (12, .pointer _), (14, .int _ _)] ⟨rfl, rfl, rfl, rfl, rfl, rfl, rfl, rfl, rfl, trivial⟩ (fun e35 => (r_seq (r_region' (l_q (q_load_agg (n := 5) Tryz.isAgg29 Tryz.sizeOf29 rfl ((hb1.cells' (cs' := [_, _, _, _, _]) 0 5 rfl)) rfl rfl) (l_q (qmi rfl rfl) ?_)))))))))))))))))))))))
       refine l_o (o_call Tryz.call29 rfl (rheard6_ret ka kc co er sa sc se ja jc sl ra rc rl (min 23 ((SN0.h + 1) + ((xw0 / 64) % 3))) _ (hlg.below hB) hbg hok) rfl ?_)
       rintro _ w36 ⟨ta36, tc36, D36, rfl, hrt36, hri36, hDm36, hE36⟩
       replace hB := below_ext hB hE36 hsz
       replace hb1 := hb1.ext hE36
       replace hty_b1 := hty_b1.ext hE36
       replace hb2 := hb2.ext hE36
       replace hty_b2 := hty_b2.ext hE36
       replace hor := own_ext hor hE36
       replace hoy := own_ext hoy hE36
       replace hb10 := hb10.ext hE36
       replace hty_b10 := hty_b10.ext hE36
       replace hsz := Nat.le_trans hsz hE36.size
       obtain ⟨hDl, hDx⟩ := tx_two hok hDm36
       refine l_q (qas rfl rfl) (l_nil (r_seq (r_seq (r_region' (l_q (qms rfl rfl) (l_q (q_len rfl Tryz.underlying47 rfl rfl) (l_q (q_eql rfl rfl rfl) (l_nil (r_cond rfl (fun hc37 => ?_) (fun hc37 => ?_))))))))))
       ·
        replace hc37 := dt hc37
        refine r_exit rfl (r_region' (l_q (qmi rfl rfl) (l_q (q_add rfl rfl (by omega) rfl) (l_q (qai rfl rfl) (l_nil (r_forget [(1, .slice _ _ _), (2, .int _ _), (3, .pointer _), (6, .pointer _), (8, .slice _ _ _), (9, .slice _ _ _), (10, .int _ _)] ⟨rfl, rfl, rfl, rfl, rfl, rfl, rfl, trivial⟩ (fun e38 => ?_)))))))
        exact ih3 (r + 1, oa, oc, N, ya, yc, Y) _ _ ⟨⟨rfl, rfl, rfl, rfl, rfl, rfl, (vint_eq (by omega)), trivial⟩, (by omega), hH, (by omega), hYl, hor, hoy, hb1, hty_b1, hb2, hty_b2, hsz, hB⟩ (by first | omega | (dsimp only; omega))
       ·
        replace hc37 := df hc37
        have hD0 : 0 < D36.length := by omega
        refine r_skip (r_region' (l_q (qms rfl rfl) (l_q (qms rfl rfl) (l_q (qmi rfl rfl) (l_q (q_mul rfl rfl (by omega) rfl) (l_q (q_add rfl rfl (by omega) rfl) (l_o (o_call Tryz.call79 rfl (word6_ret _ _ ws ((3 * (r : Int)) + 1) _ (hw.below hB) hwn hwr (by omega)) rfl ?_))))))))
        rintro _ w39 ⟨xw1, rfl, hxa1, hxb1, hE39⟩
        replace hB := below_ext hB hE39 hsz
        replace hb1 := hb1.ext hE39
        replace hty_b1 := hty_b1.ext hE39
        replace hb2 := hb2.ext hE39
        replace hty_b2 := hty_b2.ext hE39
        replace hor := own_ext hor hE39
        replace hoy := own_ext hoy hE39
        replace hb10 := hb10.ext hE39
        replace hty_b10 := hty_b10.ext hE39
        replace hrt36 := hrt36.ext hE39
        replace hri36 := hri36.ext hE39
        replace hsz := Nat.le_trans hsz hE39.size
        refine l_q (qms rfl rfl) (l_q (q_len rfl Tryz.underlying47 rfl rfl) ?_)
        have hp3 := Int.emod_nonneg xw1 (show (D36.length : Int) ≠ 0 by omega)
        have hp4 := Int.emod_lt_of_pos xw1 (show (0 : Int) < D36.length by omega)
        refine l_q (q_rem rfl rfl (by omega) rfl) ?_
        have hr41 := hri36.get (i := (xw1 % (D36.length : Int)).toNat) (by omega)
        obtain ⟨b40, o40, ha40, hh40⟩ := hrt36.at1 (xw1 % (D36.length : Int)).toNat ((D36).getD (xw1 % (D36.length : Int)).toNat sv0) (getD_some (by omega))
        refine l_q (q_indexAddr1 Tryz.underlying47 Tryz.sizeOf25 rfl ha40 rfl (by omega) rfl) (l_q (q_load Tryz.isAgg25 rfl (hh40) rfl) (l_q (qas rfl rfl) (l_q (qai rfl rfl) (l_nil (r_forget [(1, .slice _ _ _), (2, .int _ _), (3, .pointer _), (6, .pointer _), (8, .slice _ _ _), (9, .slice _ _ _), (10, .int _ _), (12, .pointer _), (13, .slice _ _ _), (14, .int _ _), (15, .int _ _)] ⟨rfl, rfl, rfl, rfl, rfl, rfl, rfl, rfl, rfl, rfl, rfl, trivial⟩ (fun e42 => ?_))))))
        exact hj14 (((D36).getD (xw1 % (D36.length : Int)).toNat sv0).a, ((D36).getD (xw1 % (D36.length : Int)).toNat sv0).c, ((D36).getD (xw1 % (D36.length : Int)).toNat sv0).xs, min 23 ((SN0.h + 1) + ((xw0 / 64) % 3)), (-1)) _ _ ⟨⟨rfl, rfl, rfl, rfl, rfl, rfl, rfl, rfl, rfl, rfl, rfl, trivial⟩, (.inl ⟨rfl, tx_mem hDm36 (by omega), by omega, by omega⟩), hr41, hb1, hty_b1, hb2, hty_b2, hor, hoy, hb10, hty_b10, hsz, hB⟩
      ·
       replace hc34 := df hc34
       refine l_q (qms rfl rfl) (l_q (qmi rfl rfl) (l_o (o_call Tryz.call37 rfl (has6_ret _ _ Y _ _ (Row.of_owns hoy) (by omega)) rfl ?_)))
       rintro _ w43 ⟨rfl, hE43⟩
       replace hB := below_ext hB hE43 hsz
       replace hb1 := hb1.ext hE43
       replace hty_b1 := hty_b1.ext hE43
       replace hb2 := hb2.ext hE43
       replace hty_b2 := hty_b2.ext hE43
       replace hor := own_ext hor hE43
       replace hoy := own_ext hoy hE43
       replace hb10 := hb10.ext hE43
       replace hty_b10 := hty_b10.ext hE43
       replace hsz := Nat.le_trans hsz hE43.size
       refine l_q (q_pick_f (v := .bool _) rfl rfl rfl) (l_nil (r_cond rfl (fun hc44 => ?_) (fun hc44 => ?_)))
       ·
        refine r_seq (r_region' (l_q (q_fieldAddr (o' := 0) rfl fld69_0 rfl) (l_q (q_load Tryz.isAgg3 rfl ((hb10.has (o := 0) rfl)) rfl) (l_q (q_add rfl rfl (by omega) rfl) (l_q (qmi rfl rfl) (l_q (q_quo rfl rfl (by omega) rfl) (l_q (q_rem rfl rfl (by omega) rfl) (l_q (q_add rfl rfl (by omega) rfl) (l_q (q_min rfl rfl rfl) (l_q (qai rfl rfl) (l_nil (r_forget [(1, .slice _ _ _), (2, .int _ _), (3, .pointer _), (6, .pointer _), (8, .slice _ _ _), (9, .slice _ _ _), (10, .int _ _), (12, .pointer _), (14, .int _ _)] ⟨rfl, rfl, rfl, rfl, rfl, rfl, rfl, rfl, rfl, trivial⟩ (fun e45 => (r_seq (r_region' (l_q (q_load_agg (n := 5) Tryz.isAgg29 Tryz.sizeOf29 rfl ((hb1.cells' (cs' := [_, _, _, _, _]) 0 5 rfl)) rfl rfl) (l_q (qmi rfl rfl) (l_o (o_call Tryz.call29 rfl (rheard6_ret ka kc co er sa sc se ja jc sl ra rc rl (min 23 ((SN0.h + 1) + ((xw0 / 64) % 3))) _ (hlg.below hB) hbg hok) rfl ?_)))))))))))))))))))
        rintro _ w46 ⟨ta46, tc46, D46, rfl, hrt46, hri46, hDm46, hE46⟩
        replace hB := below_ext hB hE46 hsz
        replace hb1 := hb1.ext hE46
        replace hty_b1 := hty_b1.ext hE46
        replace hb2 := hb2.ext hE46
        replace hty_b2 := hty_b2.ext hE46
        replace hor := own_ext hor hE46
        replace hoy := own_ext hoy hE46
        replace hb10 := hb10.ext hE46
        replace hty_b10 := hty_b10.ext hE46
        replace hsz := Nat.le_trans hsz hE46.size
        obtain ⟨hDl, hDx⟩ := tx_two hok hDm46
        refine l_q (qas rfl rfl) (l_nil (r_seq (r_seq (r_region' (l_q (qms rfl rfl) (l_q (q_len rfl Tryz.underlying47 rfl rfl) (l_q (q_eql rfl rfl rfl) (l_nil (r_cond rfl (fun hc47 => ?_) (fun hc47 => ?_))))))))))
        ·
         replace hc47 := dt hc47
         refine r_exit rfl (r_region' (l_q (qmi rfl rfl) (l_q (q_add rfl rfl (by omega) rfl) (l_q (qai rfl rfl) (l_nil (r_forget [(1, .slice _ _ _), (2, .int _ _), (3, .pointer _), (6, .pointer _), (8, .slice _ _ _), (9, .slice _ _ _), (10, .int _ _)] ⟨rfl, rfl, rfl, rfl, rfl, rfl, rfl, trivial⟩ (fun e48 => ?_)))))))
         exact ih3 (r + 1, oa, oc, N, ya, yc, Y) _ _ ⟨⟨rfl, rfl, rfl, rfl, rfl, rfl, (vint_eq (by omega)), trivial⟩, (by omega), hH, (by omega), hYl, hor, hoy, hb1, hty_b1, hb2, hty_b2, hsz, hB⟩ (by first | omega | (dsimp only; omega))
        ·
         replace hc47 := df hc47
         have hD0 : 0 < D46.length := by omega
         refine r_skip (r_region' (l_q (qms rfl rfl) (l_q (qms rfl rfl) (l_q (qmi rfl rfl) (l_q (q_mul rfl rfl (by omega) rfl) (l_q (q_add rfl rfl (by omega) rfl) (l_o (o_call Tryz.call79 rfl (word6_ret _ _ ws ((3 * (r : Int)) + 1) _ (hw.below hB) hwn hwr (by omega)) rfl ?_))))))))
         rintro _ w49 ⟨xw1, rfl, hxa1, hxb1, hE49⟩
         replace hB := below_ext hB hE49 hsz
         replace hb1 := hb1.ext hE49
         replace hty_b1 := hty_b1.ext hE49
         replace hb2 := hb2.ext hE49
         replace hty_b2 := hty_b2.ext hE49
         replace hor := own_ext hor hE49
         replace hoy := own_ext hoy hE49
         replace hb10 := hb10.ext hE49
         replace hty_b10 := hty_b10.ext hE49
         replace hrt46 := hrt46.ext hE49
         replace hri46 := hri46.ext hE49
         replace hsz := Nat.le_trans hsz hE49.size
         refine l_q (qms rfl rfl) (l_q (q_len rfl Tryz.underlying47 rfl rfl) ?_)
         have hp3 := Int.emod_nonneg xw1 (show (D46.length : Int) ≠ 0 by omega)
         have hp4 := Int.emod_lt_of_pos xw1 (show (0 : Int) < D46.length by omega)
         refine l_q (q_rem rfl rfl (by omega) rfl) ?_
         have hr51 := hri46.get (i := (xw1 % (D46.length : Int)).toNat) (by omega)
         obtain ⟨b50, o50, ha50, hh50⟩ := hrt46.at1 (xw1 % (D46.length : Int)).toNat ((D46).getD (xw1 % (D46.length : Int)).toNat sv0) (getD_some (by omega))
         refine l_q (q_indexAddr1 Tryz.underlying47 Tryz.sizeOf25 rfl ha50 rfl (by omega) rfl) (l_q (q_load Tryz.isAgg25 rfl (hh50) rfl) (l_q (qas rfl rfl) (l_q (qai rfl rfl) (l_nil (r_forget [(1, .slice _ _ _), (2, .int _ _), (3, .pointer _), (6, .pointer _), (8, .slice _ _ _), (9, .slice _ _ _), (10, .int _ _), (12, .pointer _), (13, .slice _ _ _), (14, .int _ _), (15, .int _ _)] ⟨rfl, rfl, rfl, rfl, rfl, rfl, rfl, rfl, rfl, rfl, rfl, trivial⟩ (fun e52 => ?_))))))
         exact hj14 (((D46).getD (xw1 % (D46.length : Int)).toNat sv0).a, ((D46).getD (xw1 % (D46.length : Int)).toNat sv0).c, ((D46).getD (xw1 % (D46.length : Int)).toNat sv0).xs, min 23 ((SN0.h + 1) + ((xw0 / 64) % 3)), (-1)) _ _ ⟨⟨rfl, rfl, rfl, rfl, rfl, rfl, rfl, rfl, rfl, rfl, rfl, trivial⟩, (.inl ⟨rfl, tx_mem hDm46 (by omega), by omega, by omega⟩), hr51, hb1, hty_b1, hb2, hty_b2, hor, hoy, hb10, hty_b10, hsz, hB⟩
       ·
        have g63 : hasI Y (jn : Int) = false := hc44
        refine r_skip ?_
        exact hj14 (SN0.a, SN0.c, SN0.xs, SN0.h, (jn : Int)) _ _ ⟨⟨rfl, rfl, rfl, rfl, rfl, rfl, rfl, rfl, rfl, rfl, rfl, trivial⟩, (.inr ⟨rfl, rfl, rfl, g63⟩), (hrS.below hB), hb1, hty_b1, hb2, hty_b2, hor, hoy, hb10, hty_b10, hsz, hB⟩
   ·
    replace hc5 := dlt hc5
    refine r_exit rfl (r_seq (r_region' (l_q (qms rfl rfl) (l_q (q_fieldAddr (o' := 4) rfl fld29_4 rfl) (l_o (o_storet (vs := [.slice oa N.length oc]) (cs' := [.slice ka co.length kc, vint er, .slice sa se.length sc, .slice ja sl.length jc, .slice oa N.length oc]) Tryz.sizeOf27 rfl rfl rfl rfl hb1 (Nat.le_of_ble_eq_true rfl) rfl rfl ?_))))))
    intro w53 hz53 hb1 hT53 hG53
    replace hB := below_upd hB hG53 hsz (by omega)
    replace hsz : w.heap.size ≤ w53.heap.size := by rw [hz53]; exact hsz
    replace hb2 := hb2.upd hG53 (by omega)
    replace hty_b2 := hty_b2.upd hG53 (by omega)
    replace hor := own_ty_upd hor hty_b1 hG53 (by decide)
    replace hoy := own_ty_upd hoy hty_b1 hG53 (by decide)
    replace hty_b1 := hT53 _ hty_b1
    refine l_nil (r_forget [(3, .pointer _), (6, .pointer _), (9, .slice _ _ _)] ⟨rfl, rfl, rfl, trivial⟩ (fun e54 => (r_seq (r_region' (l_q (q_load_agg (n := 5) Tryz.isAgg29 Tryz.sizeOf29 rfl ((hb1.cells' (cs' := [_, _, _, _, _]) 0 5 rfl)) rfl rfl) (l_q (qms rfl rfl) (l_o (o_storet (vs := [.slice ka co.length kc, vint er, .slice sa se.length sc, .slice ja sl.length jc, .slice oa N.length oc]) (cs' := [.slice ka co.length kc, vint er, .slice sa se.length sc, .slice ja sl.length jc, .slice oa N.length oc]) Tryz.sizeOf29 rfl rfl rfl rfl hb2 (Nat.le_of_ble_eq_true rfl) rfl rfl ?_))))))))
    intro w55 hz55 hb2 hT55 hG55
    replace hB := below_upd hB hG55 hsz (by omega)
    replace hsz : w.heap.size ≤ w55.heap.size := by rw [hz55]; exact hsz
    replace hb1 := hb1.upd hG55 (by omega)
    replace hty_b1 := hty_b1.upd hG55 (by omega)
    replace hor := own_ty_upd hor hty_b2 hG55 (by decide)
    replace hoy := own_ty_upd hoy hty_b2 hG55 (by decide)
    replace hty_b2 := hT55 _ hty_b2
    refine l_q (qas rfl rfl) (l_nil (r_ret_ (vs := [.agg _, .slice _ _ _]) rfl Tryz.func50 rfl (.nil _) ⟨⟨_, _, rfl, run_loadVarA Tryz.isAgg29 Tryz.sizeOf29 (hb2.cells' (cs' := [_, _, _, _, _]) 0 5 rfl) rfl⟩, rfl, trivial⟩ ?_))
    exact ⟨oa, oc, N, ya, yc, Y, rfl, hor, hoy, hH, by omega, Ext.of_below hB⟩
  ·
   replace hc4 := dlt hc4
   refine l_q (q_skip rfl) (l_q (q_skip rfl) (l_q (q_skip rfl) (l_q (q_skip rfl) (l_q (q_pick_f (v := .bool _) rfl rfl rfl) (l_nil (r_cond_f rfl (r_exit rfl (r_seq (r_region' (l_q (qms rfl rfl) (l_q (q_fieldAddr (o' := 4) rfl fld29_4 rfl) (l_o (o_storet (vs := [.slice oa N.length oc]) (cs' := [.slice ka co.length kc, vint er, .slice sa se.length sc, .slice ja sl.length jc, .slice oa N.length oc]) Tryz.sizeOf27 rfl rfl rfl rfl hb1 (Nat.le_of_ble_eq_true rfl) rfl rfl ?_)))))))))))))
   intro w56 hz56 hb1 hT56 hG56
   replace hB := below_upd hB hG56 hsz (by omega)
   replace hsz : w.heap.size ≤ w56.heap.size := by rw [hz56]; exact hsz
   replace hb2 := hb2.upd hG56 (by omega)
   replace hty_b2 := hty_b2.upd hG56 (by omega)
   replace hor := own_ty_upd hor hty_b1 hG56 (by decide)
   replace hoy := own_ty_upd hoy hty_b1 hG56 (by decide)
   refine l_nil (r_forget [(3, .pointer _), (6, .pointer _), (9, .slice _ _ _)] ⟨rfl, rfl, rfl, trivial⟩ (fun e57 => (r_seq (r_region' (l_q (q_load_agg (n := 5) Tryz.isAgg29 Tryz.sizeOf29 rfl ((hb1.cells' (cs' := [_, _, _, _, _]) 0 5 rfl)) rfl rfl) (l_q (qms rfl rfl) (l_o (o_storet (vs := [.slice ka co.length kc, vint er, .slice sa se.length sc, .slice ja sl.length jc, .slice oa N.length oc]) (cs' := [.slice ka co.length kc, vint er, .slice sa se.length sc, .slice ja sl.length jc, .slice oa N.length oc]) Tryz.sizeOf29 rfl rfl rfl rfl hb2 (Nat.le_of_ble_eq_true rfl) rfl rfl ?_))))))))
   intro w58 hz58 hb2 hT58 hG58
   replace hB := below_upd hB hG58 hsz (by omega)
   replace hsz : w.heap.size ≤ w58.heap.size := by rw [hz58]; exact hsz
   replace hor := own_ty_upd hor hty_b2 hG58 (by decide)
   replace hoy := own_ty_upd hoy hty_b2 hG58 (by decide)
   refine l_q (qas rfl rfl) (l_nil (r_ret_ (vs := [.agg _, .slice _ _ _]) rfl Tryz.func50 rfl (.nil _) ⟨⟨_, _, rfl, run_loadVarA Tryz.isAgg29 Tryz.sizeOf29 (hb2.cells' (cs' := [_, _, _, _, _]) 0 5 rfl) rfl⟩, rfl, trivial⟩ ?_))
   exact ⟨oa, oc, N, ya, yc, Y, rfl, hor, hoy, hH, by omega, Ext.of_below hB⟩
end Go.Proofs.YtekkdhpgcilpdaaGreat
