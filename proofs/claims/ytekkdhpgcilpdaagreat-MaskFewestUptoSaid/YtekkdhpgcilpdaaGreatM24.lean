/- Contracts. -/
import Derived.Test.YtekkdhpgcilpdaaGreatM23
set_option linter.unusedVariables false
set_option linter.unusedSimpArgs false
namespace Go.Proofs.YtekkdhpgcilpdaaGreat
open Go Go.RowKit Go.Gv Go.Fl
/-! ### The reference: assignments -/
section
variable {can : Nat → Int → Bool} {m : Nat} {out : Nat → Bool}
end
section
variable {l : Lg} {k c : Nat} {p : List Int} {out : Nat → Bool} {b : Int} {r : RC}
end
section
variable {co : List Sg} {er : Int} {se : List Int} {sl : List SN} {rl : List RC} {l : Lg} {xs : List Int} {k n ot i r : Nat} {A M D : List SV} {out : Nat → Bool}
/-- whether a list is an assignment -/
def asgB (l : Lg) (xs : List Int) : Bool := decide (xs ∈ asgM l noB)
theorem asg_iff (hl : xs.length = rl.length) : asgB (lg co er se sl rl) xs = true ↔ ∀ r, r < xs.length → okAt (canB (lg co er se sl rl)) sl.length noB xs r := by
  unfold asgB asgM
  rw [decide_eq_true_eq, mem_all, lgJ, lgR]
  constructor
  · rintro ⟨_, _, h4⟩; exact fun r hr => h4 r (Nat.zero_le _) hr
  · exact fun h4 => ⟨by simp, by simpa using hl, fun r _ hr => h4 r hr⟩
theorem asgB_len (h : ¬ xs.length = rl.length) : asgB (lg co er se sl rl) xs = false := decide_eq_false (fun h2 => h (asg_len h2))
theorem asgB_no (hl : xs.length = rl.length) (hk : k < xs.length) (h : ¬ okAt (canB (lg co er se sl rl)) sl.length noB xs k) : asgB (lg co er se sl rl) xs = false := by
  rw [Bool.eq_false_iff]
  exact fun h1 => h ((asg_iff hl).1 h1 k hk)
theorem asgB_yes (hl : xs.length = rl.length) (h : ∀ r, r < xs.length → okAt (canB (lg co er se sl rl)) sl.length noB xs r) : asgB (lg co er se sl rl) xs = true := (asg_iff hl).2 h
theorem ok_rng (h : ¬ (-1 ≤ xs.getD k 0 ∧ xs.getD k 0 ≤ (sl.length : Int) - 1)) : ¬ okAt (canB (lg co er se sl rl)) sl.length noB xs k := by
  rw [okAt_noB, mem_bys]
  exact fun h2 => h h2.1
theorem ok_fal (hr : -1 ≤ xs.getD k 0 ∧ xs.getD k 0 ≤ (sl.length : Int) - 1) (hx : xs.getD k 0 < 0) (hk : k < xs.length) : okAt (canB (lg co er se sl rl)) sl.length noB xs k ↔ (maskO (lg co er se sl rl) (rl.getD k rcd0)).isSome = true := by
  have he : xs.getD k 0 = -1 := by omega
  rw [okAt_noB, mem_bys, he, mask_some]
  unfold stepB freeP canB
  rw [List.length_take, Nat.min_eq_left (by omega), if_pos rfl, decide_eq_true rfl]
  simp only [Bool.true_or, Bool.and_true]
  constructor
  · exact fun h => h.2
  · exact fun h => ⟨by omega, h⟩
theorem ok_own (hr : -1 ≤ xs.getD k 0 ∧ xs.getD k 0 ≤ (sl.length : Int) - 1) (hx : ¬ xs.getD k 0 < 0) (hk : k < xs.length) : okAt (canB (lg co er se sl rl)) sl.length noB xs k ↔ ownB (lg co er se sl rl) (rl.getD k rcd0) (sl.getD (xs.getD k 0).toNat sn00).pn = true ∧ ∀ q, q < k → ¬ xs.getD q 0 = xs.getD k 0 := by
  rw [okAt_noB, mem_bys]
  unfold stepB
  rw [Bool.and_eq_true, free_iff (by omega), List.length_take, Nat.min_eq_left (by omega)]
  unfold canB
  rw [if_neg (by omega), lgJ_at (by omega)]
  have e : ∀ q, q < k → (xs.take k).getD q 0 = xs.getD q 0 := fun q hq => by rw [List.getD_eq_getElem?_getD, List.getElem?_take, if_pos hq, ← List.getD_eq_getElem?_getD]
  constructor
  · rintro ⟨_, h1, h2⟩
    exact ⟨h1, fun q hq he => by have := h2 q hq (by rw [e q hq]; exact he); omega⟩
  · rintro ⟨h1, h2⟩
    exact ⟨hr, h1, fun q hq he => absurd (by rw [← e q hq]; exact he) (h2 q hq)⟩
theorem fals_take (hk : k < xs.length) (h : xs.getD k 0 = -1) : fals (xs.take (k + 1)) = fals (xs.take k) + 1 := by rw [take_succ_getD hk, fals_snoc, h]; rfl
theorem fals_keep (hk : k < xs.length) (h : ¬ xs.getD k 0 = -1) : fals (xs.take (k + 1)) = fals (xs.take k) := by rw [take_succ_getD hk, fals_snoc]; unfold costB; rw [if_neg h]; omega
theorem verd_some (h0 : faultM l = 0) (h : asgM l noB ≠ []) : verdW l = ((List.range l.R.length).map (verdV l), 0) := by
  by_cases hv : (verdW l).2 = 0
  · exact (vd_ok h0 hv).1
  · have h2 := (vd_err h0 hv).2
    rw [(asg_some h0 h).1] at h2
    have h3 : (0 : Int) = 11 := congrArg Prod.snd h2
    omega
end


theorem falses6_ret (xa : Option Addr) (xc : Nat) (xs : List Int) (w : World) (hx : Row w xa xs.length xc 1 (xs.map vint)) (hxn : xs.length ≤ 2097152) : Ret Tryz.prog 51 [.slice xa xs.length xc] w (fun v w' => v = vint (fals xs) ∧ Ext w w') := by
 have hB := Below.refl w.heap.size w
 have hsz : w.heap.size ≤ w.heap.size := Nat.le_refl _
 refine ret_of_runs (args := [_]) Tryz.func51 rfl (Nat.le_of_ble_eq_true rfl) (by kernel_rfl) (r_seq (r_region' (l_q (qai rfl rfl) (l_nil (r_seq (r_region' (l_q (qai rfl rfl) (l_nil (r_seq (r_seq (r_region' (l_q (qai rfl rfl) (l_nil (r_block (r_rounds (α := Nat × Int) (fun ⟨k, n⟩ e wl => Knows e [(0, .slice xa xs.length xc), (3, vint n), (4, vint (k : Int))] ∧ (k ≤ xs.length) ∧ (n = fals (xs.take k)) ∧ (0 ≤ n ∧ n ≤ k) ∧ (w.heap.size ≤ wl.heap.size) ∧ (Below w.heap.size w wl)) (fun ⟨k, n⟩ => xs.length - k) (0, 0) ?_ ?_)))))))))))))))
 ·
  exact ⟨⟨rfl, rfl, rfl, trivial⟩, (Nat.zero_le _), rfl, (by omega), hsz, hB⟩
 ·
  rintro ⟨k, n⟩ el1 wl1 ⟨hkn, hk, hn, hnr, hsz, hB⟩ ih1
  obtain ⟨e1, rfl⟩ := knows_env hkn
  refine r_seq (r_seq (r_region' (l_q (qmi rfl rfl) (l_q (qms rfl rfl) (l_q (q_len rfl Tryz.underlying25 rfl rfl) (l_q (q_lss rfl rfl rfl) (l_nil (r_cond rfl (fun hc2 => ?_) (fun hc2 => ?_)))))))))
  ·
   replace hc2 := dt hc2
   have hkx : k < xs.length := by omega
   refine r_skip (r_seq (r_block (r_seq (r_region' (l_q (qms rfl rfl) (l_q (qmi rfl rfl) ?_))))))
   obtain ⟨b3, o3, ha3, hh3⟩ := (hx.below hB).at1 k ((xs).getD k 0) (getD_some (by omega))
   refine l_q (q_indexAddr1 Tryz.underlying25 Tryz.sizeOf3 rfl ha3 rfl (by omega) rfl) (l_q (q_load Tryz.isAgg3 rfl (hh3) rfl) (l_q (q_eql rfl rfl rfl) (l_nil (r_cond rfl (fun hc4 => ?_) (fun hc4 => ?_)))))
   ·
    replace hc4 := dt hc4
    have g15 := hc4
    refine r_region' (l_q (qmi rfl rfl) (l_q (q_add rfl rfl (by omega) rfl) (l_q (qai rfl rfl) (l_nil (r_forget [(0, .slice _ _ _), (3, .int _ _), (4, .int _ _)] ⟨rfl, rfl, rfl, trivial⟩ (fun e5 => (r_inBlock (r_region' (l_q (qmi rfl rfl) (l_q (q_add rfl rfl (by omega) rfl) (l_q (qai rfl rfl) (l_nil ?_))))))))))))
    exact ih1 (k + 1, n + 1) _ _ ⟨⟨rfl, rfl, (vint_eq (by omega)), trivial⟩, (by omega), (by rw [fals_take hkx g15, hn]), (by omega), hsz, hB⟩ (by first | omega | (dsimp only; omega))
   ·
    replace hc4 := df hc4
    have g15 := hc4
    refine r_skip (r_inBlock (r_region' (l_q (qmi rfl rfl) (l_q (q_add rfl rfl (by omega) rfl) (l_q (qai rfl rfl) (l_nil (r_forget [(0, .slice _ _ _), (3, .int _ _), (4, .int _ _)] ⟨rfl, rfl, rfl, trivial⟩ (fun e6 => ?_))))))))
    exact ih1 (k + 1, n) _ _ ⟨⟨rfl, rfl, (vint_eq (by omega)), trivial⟩, (by omega), (by rw [fals_keep hkx g15, hn]), (by omega), hsz, hB⟩ (by first | omega | (dsimp only; omega))
  ·
   replace hc2 := dlt hc2
   refine r_exit rfl (r_seq (r_region' (l_q (qmi rfl rfl) (l_q (qai rfl rfl) (l_nil (r_ret_ (vs := [.int _ _]) rfl Tryz.func51 rfl (.nil _) ⟨rfl, trivial⟩ ?_))))))
   exact ⟨vint_eq (by rw [hn, List.take_of_length_le (by omega)]), Ext.of_below hB⟩
theorem isAsg6_ret (ka : Option Addr) (kc : Nat) (co : List Sg) (er : Int) (sa : Option Addr) (sc : Nat) (se : List Int) (ja : Option Addr) (jc : Nat) (sl : List SN) (ra : Option Addr) (rc : Nat) (rl : List RC) (xa : Option Addr) (xc : Nat) (xs : List Int) (w : World) (hlg : LgAt w ka kc co sa sc se ja jc sl ra rc rl) (hbg : LgBig co er se sl rl) (hx : Row w xa xs.length xc 1 (xs.map vint)) (hxn : xs.length ≤ 2097152) (hok : faultM (lg co er se sl rl) = 0) : Ret Tryz.prog 46 [.agg ⟨[.slice ka co.length kc, vint er, .slice sa se.length sc, .slice ja sl.length jc, .slice ra rl.length rc]⟩, .slice xa xs.length xc, vint (0 : Int)] w (fun v w' => v = .bool (asgB (lg co er se sl rl) xs) ∧ Ext w w') := by
 obtain ⟨⟨hcn, hcl⟩, hen, hsn, ⟨hjn, hjl⟩, hrn, hrl⟩ := id hbg
 obtain ⟨⟨hs1, hs4⟩, hj8, hr6, hf0, ⟨he0, he3⟩, hsr, hJn, hRn⟩ := lg_ok hok
 have hj8s : sl.length ≤ 8 := by have h := hj8; rwa [lgJ] at h
 have hr6s : rl.length ≤ 6 := hr6
 have hB := Below.refl w.heap.size w
 have hsz : w.heap.size ≤ w.heap.size := Nat.le_refl _
 refine ret_of_runs (args := [_, _, _]) Tryz.func46 rfl (Nat.le_of_ble_eq_true rfl) (by kernel_rfl) (r_seq (r_region' (l_o (o_box rfl rfl rfl ?_))))
 intro b1 w1 hzl1 hzr1 _ hb1 hE1
 have hbs_b1 : w.heap.size ≤ b1 := Nat.le_trans hsz hzl1
 replace hB := below_ext hB hE1 hsz
 replace hsz := Nat.le_trans hsz hE1.size
 refine l_q (qab rfl rfl) (l_nil (r_seq (r_seq (r_region' (l_q (qms rfl rfl) (l_q (q_len rfl Tryz.underlying25 rfl rfl) (l_q (q_fieldAddr (o' := 4) rfl fld29_4 rfl) (l_q (q_load Tryz.isAgg27 rfl ((hb1.has (o := 4) rfl)) rfl) (l_q (q_len rfl Tryz.underlying27 rfl rfl) (l_q (q_neq rfl rfl rfl) (l_nil (r_cond rfl (fun hc2 => ?_) (fun hc2 => ?_)))))))))))))
 ·
  replace hc2 := df (nt hc2)
  refine r_seq (r_region' (l_q (qab rfl rfl) (l_nil (r_forget [(6, .bool _)] ⟨rfl, trivial⟩ (fun e3 => (r_ret_ (vs := [.bool _]) rfl Tryz.func46 rfl (.nil _) ⟨rfl, trivial⟩ ?_))))))
  exact ⟨vbool_eq (asgB_len (by omega)).symm, Ext.of_below hB⟩
 ·
  replace hc2 := dt (nf hc2)
  have hlr : xs.length = rl.length := by omega
  refine r_skip (r_seq (r_seq (r_region' (l_q (qai rfl rfl) (l_nil (r_block (r_rounds (α := Nat) (fun k e wl => Knows e [(1, .slice xa xs.length xc), (2, vint (0 : Int)), (3, ptr b1 0), (7, vint (k : Int))] ∧ (k ≤ xs.length) ∧ (∀ j, j < k → okAt (canB (lg co er se sl rl)) sl.length noB xs j) ∧ (Blk wl b1 [.slice ka co.length kc, vint er, .slice sa se.length sc, .slice ja sl.length jc, .slice ra rl.length rc]) ∧ (w.heap.size ≤ wl.heap.size) ∧ (Below w.heap.size w wl)) (fun k => xs.length - k) 0 ?_ ?_)))))))
  ·
   exact ⟨⟨rfl, rfl, rfl, rfl, trivial⟩, (Nat.zero_le _), (fun i hi => absurd hi (Nat.not_lt_zero _)), hb1, hsz, hB⟩
  ·
   rintro k el4 wl4 ⟨hkn, hkk, hno, hb1, hsz, hB⟩ ih4
   obtain ⟨e4, rfl⟩ := knows_env hkn
   refine r_seq (r_seq (r_region' (l_q (qmi rfl rfl) (l_q (qms rfl rfl) (l_q (q_len rfl Tryz.underlying25 rfl rfl) (l_q (q_lss rfl rfl rfl) (l_nil (r_cond rfl (fun hc5 => ?_) (fun hc5 => ?_)))))))))
   ·
    replace hc5 := dt hc5
    have hkx : k < xs.length := by omega
    have hkR : k < rl.length := by omega
    refine r_skip (r_seq (r_block (r_seq (r_seq (r_region' (l_q (qmi rfl rfl) (l_q (qmi rfl rfl) (l_q (q_toUint Tryz.underlying3 Tryz.underlying64 rfl (by omega) rfl) (l_q (q_shr rfl rfl (by omega) rfl) (l_q (q_rem rfl rfl (by rw [Int.zero_ediv]; omega) rfl) (l_q (q_eql rfl rfl rfl) (l_nil ?_))))))))))))
    have hk6 : (decide ((((0 : Int) / 2 ^ k) % 2) = 1)) = false := by simp
    refine r_cond_f ((congrArg Value.bool hk6 : Value.bool _ = _)) (r_skip (r_seq (r_seq (r_draw ext_refl' ext_trans' [0, 1, 2, 3, 4, 5, 6, 7, 8, 9] [8] 8 (by kernel_rfl) (by kernel_rfl) ?_))))
    intro w7 _ hE7
    replace hB := below_ext hB hE7 hsz
    replace hb1 := hb1.ext hE7
    replace hsz := Nat.le_trans hsz hE7.size
    refine m_q rfl rfl (fun w' hC' => qms rfl rfl) (m_q rfl rfl (fun w' hC' => qmi rfl rfl) ?_)
    obtain ⟨b8, o8, ha8, hh8⟩ := (hx.below hB).at1 k ((xs).getD k 0) (getD_some (by omega))
    refine m_q rfl rfl (fun w' hC' => q_indexAddr1 Tryz.underlying25 Tryz.sizeOf3 rfl ha8 rfl (by omega) rfl) (m_q rfl rfl (fun w' hC' => q_load Tryz.isAgg3 rfl ((hh8.ext hC')) rfl) (m_q rfl rfl (fun w' hC' => q_fieldAddr (o' := 3) rfl fld29_3 rfl) (m_q rfl rfl (fun w' hC' => q_load Tryz.isAgg26 rfl (((hb1.has (o := 3) rfl).ext hC')) rfl) (m_q rfl rfl (fun w' hC' => q_len rfl Tryz.underlying26 rfl rfl) (m_q rfl rfl (fun w' hC' => q_sub rfl rfl (by omega) rfl) (m_o rfl rfl (o_call Tryz.call23 rfl (in6_ret _ _ _ _) rfl ?_)))))))
    rintro _ w9 ⟨rfl, rfl⟩
    refine ⟨Ext.refl _, ?_⟩
    refine m_q rfl rfl (fun w' hC' => q_not rfl rfl) (m_nil (r_forget [(1, .slice _ _ _), (2, .int _ _), (3, .pointer _), (7, .int _ _), (38, .bool _)] ⟨rfl, rfl, rfl, rfl, rfl, trivial⟩ (fun e10 => (r_cond rfl (fun hc11 => ?_) (fun hc11 => ?_)))))
    ·
     replace hc11 := b2f (nt hc11)
     refine r_seq (r_region' (l_q (qab rfl rfl) (l_nil (r_ret_ (vs := [.bool _]) rfl Tryz.func46 rfl (.nil _) ⟨rfl, trivial⟩ ?_))))
     exact ⟨vbool_eq (asgB_no hlr hkx (ok_rng (by omega))).symm, Ext.of_below hB⟩
    ·
     replace hc11 := b2t (nf hc11)
     have hrg : -1 ≤ xs.getD k 0 ∧ xs.getD k 0 ≤ (sl.length : Int) - 1 := by omega
     refine r_skip (r_seq (r_seq (r_region' (l_q (qms rfl rfl) (l_q (qmi rfl rfl) ?_)))))
     obtain ⟨b12, o12, ha12, hh12⟩ := (hx.below hB).at1 k ((xs).getD k 0) (getD_some (by omega))
     refine l_q (q_indexAddr1 Tryz.underlying25 Tryz.sizeOf3 rfl ha12 rfl (by omega) rfl) (l_q (q_load Tryz.isAgg3 rfl (hh12) rfl) (l_q (q_lss rfl rfl rfl) (l_nil (r_cond rfl (fun hc13 => ?_) (fun hc13 => ?_)))))
     ·
      replace hc13 := dt hc13
      have g43 := hc13
      refine r_seq (r_seq (r_region' (l_q (q_load_agg (n := 5) Tryz.isAgg29 Tryz.sizeOf29 rfl ((hb1.cells' (cs' := [_, _, _, _, _]) 0 5 rfl)) rfl rfl) (l_q (qmi rfl rfl) (l_o (o_call Tryz.call30 rfl (rmasked6_ret ka kc co er sa sc se ja jc sl ra rc rl k _ (hlg.below hB) hbg hok hkR) rfl ?_))))))
      rintro _ w14 ⟨a14_0, c14_0, rfl, hr14_0, hE14⟩
      replace hB := below_ext hB hE14 hsz
      replace hb1 := hb1.ext hE14
      replace hsz := Nat.le_trans hsz hE14.size
      refine l_q (q_move (v := .tuple _) rfl rfl) (l_q (q_extract (vs := [_, _]) (v := .slice _ _ _) rfl rfl rfl) (l_q (q_extract (vs := [_, _]) (v := .bool _) rfl rfl rfl) (l_q (qas rfl rfl) (l_q (qab rfl rfl) (l_nil (r_forget [(1, .slice _ _ _), (2, .int _ _), (3, .pointer _), (7, .int _ _), (9, .bool _)] ⟨rfl, rfl, rfl, rfl, rfl, trivial⟩ (fun e15 => (r_seq (r_region' (l_q (qmb rfl rfl) (l_q (q_not rfl rfl) (l_nil (r_cond rfl (fun hc16 => ?_) (fun hc16 => ?_))))))))))))))
      ·
       replace hc16 := nt hc16
       have g51 : (maskO (lg co er se sl rl) (rl.getD k rcd0)).isSome = false := by simpa using hc16
       refine r_seq (r_region' (l_q (qab rfl rfl) (l_nil (r_ret_ (vs := [.bool _]) rfl Tryz.func46 rfl (.nil _) ⟨rfl, trivial⟩ ?_))))
       exact ⟨vbool_eq (asgB_no hlr hkx (fun h => by rw [(ok_fal hrg g43 hkx).1 h] at g51; cases g51)).symm, Ext.of_below hB⟩
      ·
       replace hc16 := nf hc16
       have g51 : (maskO (lg co er se sl rl) (rl.getD k rcd0)).isSome = true := by simpa using hc16
       refine r_skip (r_exit rfl (r_region' (l_q (qmi rfl rfl) (l_q (q_add rfl rfl (by omega) rfl) (l_q (qai rfl rfl) (l_nil ?_))))))
       exact ih4 (k + 1) _ _ ⟨⟨rfl, rfl, rfl, (vint_eq (by omega)), trivial⟩, (by omega), (fun j hj => by rcases Nat.lt_succ_iff_lt_or_eq.1 hj with h | h; exact hno j h; subst h; exact (ok_fal hrg g43 hkx).2 g51), hb1, hsz, hB⟩ (by first | omega | (dsimp only; omega))
     ·
      replace hc13 := dlt hc13
      have g43 := hc13
      refine r_skip (r_seq (r_seq (r_draw ext_refl' ext_trans' [0, 1, 2, 3, 4, 5, 6, 7] [6] 6 (by kernel_rfl) (by kernel_rfl) ?_)))
      intro w17 _ hE17
      replace hB := below_ext hB hE17 hsz
      replace hb1 := hb1.ext hE17
      replace hsz := Nat.le_trans hsz hE17.size
      refine m_q rfl rfl (fun w' hC' => q_load_agg (n := 5) Tryz.isAgg29 Tryz.sizeOf29 rfl (((hb1.cells' (cs' := [_, _, _, _, _]) 0 5 rfl).ext hC')) rfl rfl) (m_q rfl rfl (fun w' hC' => qmi rfl rfl) (m_q rfl rfl (fun w' hC' => qms rfl rfl) (m_q rfl rfl (fun w' hC' => qmi rfl rfl) ?_)))
      obtain ⟨b18, o18, ha18, hh18⟩ := (hx.below hB).at1 k ((xs).getD k 0) (getD_some (by omega))
      refine m_q rfl rfl (fun w' hC' => q_indexAddr1 Tryz.underlying25 Tryz.sizeOf3 rfl ha18 rfl (by omega) rfl) (m_q rfl rfl (fun w' hC' => q_load Tryz.isAgg3 rfl ((hh18.ext hC')) rfl) (m_o rfl rfl (o_call Tryz.call67 rfl ((by have h := isOwn6_ret ka kc co er sa sc se ja jc sl ra rc rl k ((xs).getD k 0).toNat w17 (hlg.below hB) hbg hok hkR (by omega); rwa [show ((((xs).getD k 0).toNat : Nat) : Int) = (xs).getD k 0 by omega] at h)) rfl ?_)))
      rintro _ w19 ⟨rfl, hE19⟩
      refine ⟨hE19, ?_⟩
      replace hB := below_ext hB hE19 hsz
      replace hb1 := hb1.ext hE19
      replace hsz := Nat.le_trans hsz hE19.size
      refine m_q rfl rfl (fun w' hC' => q_not rfl rfl) (m_nil (r_forget [(1, .slice _ _ _), (2, .int _ _), (3, .pointer _), (7, .int _ _), (59, .bool _)] ⟨rfl, rfl, rfl, rfl, rfl, trivial⟩ (fun e20 => (r_cond rfl (fun hc21 => ?_) (fun hc21 => ?_)))))
      ·
       replace hc21 := nt hc21
       have g59 : ownB (lg co er se sl rl) (rl.getD k rcd0) (sl.getD (xs.getD k 0).toNat sn00).pn = false := by simpa using hc21
       refine r_seq (r_region' (l_q (qab rfl rfl) (l_nil (r_ret_ (vs := [.bool _]) rfl Tryz.func46 rfl (.nil _) ⟨rfl, trivial⟩ ?_))))
       exact ⟨vbool_eq (asgB_no hlr hkx (fun h => by rw [((ok_own hrg (by omega) hkx).1 h).1] at g59; cases g59)).symm, Ext.of_below hB⟩
      ·
       replace hc21 := nf hc21
       have g59 : ownB (lg co er se sl rl) (rl.getD k rcd0) (sl.getD (xs.getD k 0).toNat sn00).pn = true := by simpa using hc21
       refine r_skip (r_seq (r_region' (l_q (qai rfl rfl) (l_nil (r_block (r_rounds (α := Nat) (fun q e wl => Knows e [(1, .slice xa xs.length xc), (2, vint (0 : Int)), (3, ptr b1 0), (7, vint (k : Int)), (10, vint (q : Int))] ∧ (q ≤ k) ∧ (∀ j, j < q → ¬ xs.getD j 0 = xs.getD k 0) ∧ (Blk wl b1 [.slice ka co.length kc, vint er, .slice sa se.length sc, .slice ja sl.length jc, .slice ra rl.length rc]) ∧ (w.heap.size ≤ wl.heap.size) ∧ (Below w.heap.size w wl)) (fun q => k - q) 0 ?_ ?_))))))
       ·
        exact ⟨⟨rfl, rfl, rfl, rfl, rfl, trivial⟩, (Nat.zero_le _), (fun i hi => absurd hi (Nat.not_lt_zero _)), hb1, hsz, hB⟩
       ·
        rintro q el22 wl22 ⟨hkn, hkq, hq, hb1, hsz, hB⟩ ih22
        obtain ⟨e22, rfl⟩ := knows_env hkn
        refine r_seq (r_seq (r_region' (l_q (qmi rfl rfl) (l_q (qmi rfl rfl) (l_q (q_lss rfl rfl rfl) (l_nil (r_cond rfl (fun hc23 => ?_) (fun hc23 => ?_))))))))
        ·
         replace hc23 := dt hc23
         have hqk : q < k := by omega
         refine r_skip (r_seq (r_block (r_seq (r_draw ext_refl' ext_trans' [0, 1, 2, 3, 4, 5, 6, 7, 8, 9, 10, 11, 12, 13, 14, 15, 16] [] 14 (by kernel_rfl) (by kernel_rfl) ?_))))
         intro w24 _ hE24
         replace hB := below_ext hB hE24 hsz
         replace hb1 := hb1.ext hE24
         replace hsz := Nat.le_trans hsz hE24.size
         refine m_q rfl rfl (fun w' hC' => qmi rfl rfl) (m_q rfl rfl (fun w' hC' => qmi rfl rfl) (m_q rfl rfl (fun w' hC' => q_toUint Tryz.underlying3 Tryz.underlying64 rfl (by omega) rfl) (m_q rfl rfl (fun w' hC' => q_shr rfl rfl (by omega) rfl) (m_q rfl rfl (fun w' hC' => q_rem rfl rfl (by rw [Int.zero_ediv]; omega) rfl) (m_q rfl rfl (fun w' hC' => q_eql rfl rfl rfl) (m_q rfl rfl (fun w' hC' => qmb rfl rfl) ?_))))))
         have hk25 : (decide ((((0 : Int) / 2 ^ q) % 2) = 0)) = true := by simp
         refine m_part 71 rfl (fun _ => ?_) (fun hx => absurd (hk25.symm.trans hx) (by decide))
         refine m_q rfl rfl (fun w' hC' => qms rfl rfl) (m_q rfl rfl (fun w' hC' => qmi rfl rfl) ?_)
         obtain ⟨b26, o26, ha26, hh26⟩ := (hx.below hB).at1 q ((xs).getD q 0) (getD_some (by omega))
         refine m_q rfl rfl (fun w' hC' => q_indexAddr1 Tryz.underlying25 Tryz.sizeOf3 rfl ha26 rfl (by omega) rfl) (m_q rfl rfl (fun w' hC' => q_load Tryz.isAgg3 rfl ((hh26.ext hC')) rfl) (m_q rfl rfl (fun w' hC' => qms rfl rfl) (m_q rfl rfl (fun w' hC' => qmi rfl rfl) ?_)))
         obtain ⟨b27, o27, ha27, hh27⟩ := (hx.below hB).at1 k ((xs).getD k 0) (getD_some (by omega))
         refine m_q rfl rfl (fun w' hC' => q_indexAddr1 Tryz.underlying25 Tryz.sizeOf3 rfl ha27 rfl (by omega) rfl) (m_q rfl rfl (fun w' hC' => q_load Tryz.isAgg3 rfl ((hh27.ext hC')) rfl) (m_q rfl rfl (fun w' hC' => q_eql rfl rfl rfl) (m_q rfl rfl (fun w' hC' => q_pick_t (v := .bool _) rfl rfl rfl) (m_nil (r_forget [(1, .slice _ _ _), (2, .int _ _), (3, .pointer _), (7, .int _ _), (10, .int _ _), (81, .bool _)] ⟨rfl, rfl, rfl, rfl, rfl, rfl, trivial⟩ (fun e28 => (r_cond rfl (fun hc29 => ?_) (fun hc29 => ?_))))))))
         ·
          replace hc29 := dt hc29
          have g81 := hc29
          refine r_seq (r_region' (l_q (qab rfl rfl) (l_nil (r_ret_ (vs := [.bool _]) rfl Tryz.func46 rfl (.nil _) ⟨rfl, trivial⟩ ?_))))
          exact ⟨vbool_eq (asgB_no hlr hkx (fun h => ((ok_own hrg (by omega) hkx).1 h).2 q (by omega) g81)).symm, Ext.of_below hB⟩
         ·
          replace hc29 := df hc29
          have g81 := hc29
          refine r_skip (r_inBlock (r_region' (l_q (qmi rfl rfl) (l_q (q_add rfl rfl (by omega) rfl) (l_q (qai rfl rfl) (l_nil ?_))))))
          exact ih22 (q + 1) _ _ ⟨⟨rfl, rfl, rfl, rfl, (vint_eq (by omega)), trivial⟩, (by omega), (fun j hj => by rcases Nat.lt_succ_iff_lt_or_eq.1 hj with h | h; exact hq j h; subst h; exact g81), hb1, hsz, hB⟩ (by first | omega | (dsimp only; omega))
        ·
         replace hc23 := dlt hc23
         refine r_exit rfl (r_inBlock (r_region' (l_q (qmi rfl rfl) (l_q (q_add rfl rfl (by omega) rfl) (l_q (qai rfl rfl) (l_nil ?_))))))
         exact ih4 (k + 1) _ _ ⟨⟨rfl, rfl, rfl, (vint_eq (by omega)), trivial⟩, (by omega), (fun j hj => by rcases Nat.lt_succ_iff_lt_or_eq.1 hj with h | h; exact hno j h; subst h; exact (ok_own hrg (by omega) hkx).2 ⟨g59, fun j hj => hq j (by omega)⟩), hb1, hsz, hB⟩ (by first | omega | (dsimp only; omega))
   ·
    replace hc5 := dlt hc5
    refine r_exit rfl (r_seq (r_region' (l_q (qab rfl rfl) (l_nil (r_ret_ (vs := [.bool _]) rfl Tryz.func46 rfl (.nil _) ⟨rfl, trivial⟩ ?_)))))
    exact ⟨vbool_eq (asgB_yes hlr (fun j hj => hno j (by omega))).symm, Ext.of_below hB⟩
end Go.Proofs.YtekkdhpgcilpdaaGreat
