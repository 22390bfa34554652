/- Contracts. -/
import Derived.Test.YtekkdhpgcilpdaaGreatM25
set_option linter.unusedVariables false
set_option linter.unusedSimpArgs false
namespace Go.Proofs.YtekkdhpgcilpdaaGreat
open Go Go.RowKit Go.Gv Go.Fl


theorem maskLeaves_ret (ka : Option Addr) (kc : Nat) (co : List Sg) (er : Int) (sa : Option Addr) (sc : Nat) (se : List Int) (ja : Option Addr) (jc : Nat) (sl : List SN) (ra : Option Addr) (rc : Nat) (rl : List RC) (w : World) (hlg : LgAt w ka kc co sa sc se ja jc sl ra rc rl) (hbg : LgBig co er se sl rl) : Ret Tryz.prog 5 [.agg ⟨[.slice ka co.length kc, vint er, .slice sa se.length sc, .slice ja sl.length jc, .slice ra rl.length rc]⟩] w (fun v w' => v = .bool true ∧ Ext w w') := by
 obtain ⟨⟨hcn, hcl⟩, hen, hsn, ⟨hjn, hjl⟩, hrn, hrl⟩ := id hbg
 have hB := Below.refl w.heap.size w
 have hsz : w.heap.size ≤ w.heap.size := Nat.le_refl _
 refine ret_of_runs (args := [_]) Tryz.func5 rfl (Nat.le_of_ble_eq_true rfl) (by kernel_rfl) (r_seq (r_region' (l_o (o_box rfl rfl rfl ?_))))
 intro b1 w1 hzl1 hzr1 _ hb1 hE1
 have hbs_b1 : w.heap.size ≤ b1 := Nat.le_trans hsz hzl1
 replace hB := below_ext hB hE1 hsz
 replace hsz := Nat.le_trans hsz hE1.size
 refine l_q (qab rfl rfl) (l_nil (r_seq (r_seq (r_region' (l_q (q_load_agg (n := 5) Tryz.isAgg29 Tryz.sizeOf29 rfl ((hb1.cells' (cs' := [_, _, _, _, _]) 0 5 rfl)) rfl rfl) (l_o (o_call Tryz.call31 rfl (small6_ret ka kc co er sa sc se ja jc sl ra rc rl _ (hlg.below hB) hbg) rfl ?_)))))))
 rintro _ w2 ⟨bb2, rfl, hsml, hE2⟩
 replace hB := below_ext hB hE2 hsz
 replace hb1 := hb1.ext hE2
 replace hsz := Nat.le_trans hsz hE2.size
 refine l_q (q_not rfl rfl) (l_nil (r_cond rfl (fun hc3 => ?_) (fun hc3 => ?_)))
 ·
  replace hc3 := nt hc3
  refine r_seq (r_region' (l_o (o_call Tryz.call18 rfl (awake6_ret _) rfl ?_)))
  rintro _ w4 ⟨rfl, hE4⟩
  replace hB := below_ext hB hE4 hsz
  replace hb1 := hb1.ext hE4
  replace hsz := Nat.le_trans hsz hE4.size
  refine l_q (qab rfl rfl) (l_nil (r_ret_ (vs := [.bool _]) rfl Tryz.func5 rfl (.nil _) ⟨rfl, trivial⟩ ?_))
  exact ⟨rfl, Ext.of_below hB⟩
 ·
  replace hc3 := nf hc3
  have hsm := hsml (by simpa using hc3)
  refine r_skip (r_seq (r_region' (l_q (q_load_agg (n := 5) Tryz.isAgg29 Tryz.sizeOf29 rfl ((hb1.cells' (cs' := [_, _, _, _, _]) 0 5 rfl)) rfl rfl) (l_o (o_call Tryz.call20 rfl (log6_ret ka kc co er sa sc se ja jc sl ra rc rl _ (hlg.below hB) hbg) rfl ?_)))))
  rintro _ w5 ⟨qka5, qkc5, qsa5, qsc5, qja5, qjc5, qsl5, qra5, qrc5, rfl, hlg5, hm5, hE5⟩
  replace hB := below_ext hB hE5 hsz
  replace hb1 := hb1.ext hE5
  replace hsz := Nat.le_trans hsz hE5.size
  have hv6 := leave6_ret qka5 qkc5 co er qsa5 qsc5 se qja5 qjc5 qsl5 qra5 qrc5 rl  w5 hlg5 (big_same hm5 hbg) 
  rw [lg_same hm5] at hv6
  refine l_o (o_call Tryz.call32 rfl (hv6) rfl ?_)
  rintro _ w7 ⟨a7_0, c7_0, rfl, hr7_0, hE7⟩
  replace hB := below_ext hB hE7 hsz
  replace hb1 := hb1.ext hE7
  replace hsz := Nat.le_trans hsz hE7.size
  refine l_q (q_move (v := .tuple _) rfl rfl) (l_q (q_extract (vs := [_, _]) (v := .slice _ _ _) rfl rfl rfl) (l_q (q_extract (vs := [_, _]) (v := .int _ _) rfl rfl rfl) (l_q (qas rfl rfl) (l_q (qai rfl rfl) (l_nil (r_forget [(1, .pointer _), (3, .slice _ _ _), (4, .int _ _)] ⟨rfl, rfl, rfl, trivial⟩ (fun e8 => (r_seq (r_seq (r_region' (l_q (q_load_agg (n := 5) Tryz.isAgg29 Tryz.sizeOf29 rfl ((hb1.cells' (cs' := [_, _, _, _, _]) 0 5 rfl)) rfl rfl) (l_o (o_call Tryz.call22 rfl (lfault6_ret ka kc co er sa sc se ja jc sl ra rc rl _ (hlg.below hB) hbg) rfl ?_)))))))))))))
  rintro _ w9 ⟨rfl, hE9⟩
  replace hB := below_ext hB hE9 hsz
  replace hb1 := hb1.ext hE9
  replace hr7_0 := hr7_0.ext hE9
  replace hsz := Nat.le_trans hsz hE9.size
  refine l_q (qai rfl rfl) (l_nil (r_seq (r_region' (l_q (qmi rfl rfl) (l_q (q_neq rfl rfl rfl) (l_nil (r_cond rfl (fun hc10 => ?_) (fun hc10 => ?_))))))))
  ·
   replace hc10 := df (nt hc10)
   have h19 : ¬ faultM (lg co er se sl rl) = 0 := hc10
   have hlw := leavW_f h19
   refine r_seq (r_region' (l_q (qmi rfl rfl) (l_q (qmi rfl rfl) (l_q (q_eql rfl rfl rfl) (l_q (qmb rfl rfl) ?_)))))
   have hk11 : (decide (((leavW (lg co er se sl rl)).2) = (faultM (lg co er se sl rl)))) = true := by rw [hlw]; simp
   refine l_part 23 rfl (fun _ => ?_) (fun hx => absurd (hk11.symm.trans hx) (by decide))
   refine l_q (qms rfl rfl) (l_q (q_len rfl Tryz.underlying25 rfl rfl) (l_q (q_eql rfl rfl rfl) (l_q (q_pick_t (v := .bool _) rfl rfl rfl) (l_q (qmb rfl rfl) ?_))))
   have hk12 : (decide ((((leavW (lg co er se sl rl)).1).length : Int) = 0)) = true := by rw [hlw]; rfl
   refine l_part 28 rfl (fun _ => ?_) (fun hx => absurd (hk12.symm.trans hx) (by decide))
   refine l_o (o_call Tryz.call18 rfl (awake6_ret _) rfl ?_)
   rintro _ w13 ⟨rfl, hE13⟩
   replace hB := below_ext hB hE13 hsz
   replace hb1 := hb1.ext hE13
   replace hr7_0 := hr7_0.ext hE13
   replace hsz := Nat.le_trans hsz hE13.size
   refine l_q (q_pick_t (v := .bool _) rfl rfl rfl) (l_q (qab rfl rfl) (l_nil (r_forget [(2, .bool _)] ⟨rfl, trivial⟩ (fun e14 => (r_ret_ (vs := [.bool _]) rfl Tryz.func5 rfl (.nil _) ⟨rfl, trivial⟩ ?_)))))
   exact ⟨rfl, Ext.of_below hB⟩
  ·
   replace hc10 := dt (nf hc10)
   have hok : faultM (lg co er se sl rl) = 0 := by have := hc10; simpa using this
   obtain ⟨hJ5, hR4⟩ := hsm hok
   have hlw : (leavW (lg co er se sl rl)) = (leaveM (lg co er se sl rl), 0) := by unfold leavW; rw [if_neg (fun h => h hok)]
   have hll : (leaveM (lg co er se sl rl)).length ≤ rl.length := left_len
   refine r_skip (r_seq (r_region' (l_q (qmi rfl rfl) (l_q (q_eql rfl rfl rfl) (l_q (qmb rfl rfl) ?_)))))
   have hk15 : (decide (((leavW (lg co er se sl rl)).2) = 0)) = true := by rw [hlw]; rfl
   refine l_part 33 rfl (fun _ => ?_) (fun hx => absurd (hk15.symm.trans hx) (by decide))
   refine l_q (qms rfl rfl) (l_q (q_load_agg (n := 5) Tryz.isAgg29 Tryz.sizeOf29 rfl ((hb1.cells' (cs' := [_, _, _, _, _]) 0 5 rfl)) rfl rfl) (l_o (o_call Tryz.call33 rfl (rleave6_ret ka kc co er sa sc se ja jc sl ra rc rl _ (hlg.below hB) hbg hok hJ5 hR4) rfl ?_)))
   rintro _ w16 ⟨a16_0, c16_0, rfl, hr16_0, hE16⟩
   replace hB := below_ext hB hE16 hsz
   replace hr7_0 := hr7_0.ext hE16
   replace hsz := Nat.le_trans hsz hE16.size
   refine l_o (o_call Tryz.call24 rfl (same_ret _ _ ((leavW (lg co er se sl rl)).1) _ _ (leaveM (lg co er se sl rl)) _ hr7_0 (by rw [hlw]; show (leaveM _).length ≤ _; omega) hr16_0 (by omega)) rfl ?_)
   rintro _ w17 ⟨rfl, hE17⟩
   replace hB := below_ext hB hE17 hsz
   replace hsz := Nat.le_trans hsz hE17.size
   refine l_q (q_pick_t (v := .bool _) rfl rfl rfl) (l_q (qmb rfl rfl) ?_)
   have hk18 : (decide (((leavW (lg co er se sl rl)).1) = (leaveM (lg co er se sl rl)))) = true := by rw [hlw]; simp
   refine l_part 39 rfl (fun _ => ?_) (fun hx => absurd (hk18.symm.trans hx) (by decide))
   refine l_o (o_call Tryz.call18 rfl (awake6_ret _) rfl ?_)
   rintro _ w19 ⟨rfl, hE19⟩
   replace hB := below_ext hB hE19 hsz
   replace hsz := Nat.le_trans hsz hE19.size
   refine l_q (q_pick_t (v := .bool _) rfl rfl rfl) (l_q (qab rfl rfl) (l_nil (r_forget [(2, .bool _)] ⟨rfl, trivial⟩ (fun e20 => (r_ret_ (vs := [.bool _]) rfl Tryz.func5 rfl (.nil _) ⟨rfl, trivial⟩ ?_)))))
   exact ⟨rfl, Ext.of_below hB⟩
end Go.Proofs.YtekkdhpgcilpdaaGreat
