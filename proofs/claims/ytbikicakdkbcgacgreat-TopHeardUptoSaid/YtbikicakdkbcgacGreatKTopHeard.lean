/- Contracts. -/
import Derived.Test.YtbikicakdkbcgacGreatH12
import Derived.Test.YtbikicakdkbcgacGreatH2
set_option linter.unusedVariables false
set_option linter.unusedSimpArgs false
namespace Go.Proofs.YtbikicakdkbcgacGreat
open Go Go.RowKit Go.Gv Go.Fl


set_option maxHeartbeats 2000000 in
theorem topHeard_ret (sa : Option Addr) (sc : Nat) (sl : List S4) (ra : Option Addr) (rc : Nat) (rl : List WL) (ka : Option Addr) (kc : Nat) (kl : List KV) (ua : Option Addr) (uc : Nat) (ul : List S3) (a : Option Addr) (cc : Nat) (c : List Sg) (xa : Option Addr) (xc : Nat) (tx : List Int) (wh ot ks wn : Int) (w : World) (hla : LandAt w sa sc sl ra rc rl ka kc kl ua uc ul) (hlb : LaBig sl rl kl ul) (hrow : Row w a c.length cc 1 (c.map vstr)) (hcn : c.length ≤ 2097152) (hcl : ∀ s ∈ c, s.length ≤ 2097152) (hx : Row w xa tx.length xc 1 (tx.map vint)) (hxn : tx.length ≤ 2097152) (hwh : 0 ≤ wh ∧ wh ≤ 255) (hot : 0 ≤ ot ∧ ot ≤ 255) (hks : 0 ≤ ks ∧ ks ≤ 255) (hwn : 0 ≤ wn ∧ wn ≤ 255) : Ret Tryz.prog 3 [.agg ⟨[.slice sa sl.length sc, .slice ra rl.length rc, .slice ka kl.length kc, .slice ua ul.length uc]⟩, .agg ⟨[.slice a c.length cc]⟩, .slice xa tx.length xc, .int .u8 wh, .int .u8 ot, .int .u8 ks, .int .u8 wn] w (fun v w' => v = .bool true ∧ Ext w w') := by
 obtain ⟨hbs, hbr, hbk, hbu, hbc⟩ := id hlb
 have hB := Below.refl w.heap.size w
 have hsz : w.heap.size ≤ w.heap.size := Nat.le_refl _
 refine ret_of_runs (args := [_, _, _, _, _, _, _]) Tryz.func3 rfl (Nat.le_of_ble_eq_true rfl) (by kernel_rfl) (r_seq (r_region' (l_o (o_boxt rfl rfl rfl ?_))))
 intro b1 w1 hzl1 hzr1 _ hb1 hty_b1 hE1
 have hbs_b1 : w.heap.size ≤ b1 := Nat.le_trans hsz hzl1
 replace hB := below_ext hB hE1 hsz
 replace hsz := Nat.le_trans hsz hE1.size
 refine l_o (o_boxt rfl rfl rfl ?_)
 intro b2 w2 hzl2 hzr2 _ hb2 hty_b2 hE2
 have hne_b1_b2 : b1 ≠ b2 := by have := hb1.lt; omega
 have hbs_b2 : w.heap.size ≤ b2 := Nat.le_trans hsz hzl2
 replace hB := below_ext hB hE2 hsz
 replace hb1 := hb1.ext hE2
 replace hty_b1 := hty_b1.ext hE2
 replace hsz := Nat.le_trans hsz hE2.size
 refine l_q (qab rfl rfl) (l_nil (r_seq (r_seq (r_region' (l_q (q_load_agg (n := 4) Tryz.isAgg27 Tryz.sizeOf27 rfl ((hb1.cells' (cs' := [_, _, _, _]) 0 4 rfl)) rfl rfl) (l_o (o_call Tryz.call4 rfl (thin1_ret sa sc sl ra rc rl ka kc kl ua uc ul _ (hla.below hB) hlb) rfl ?_)))))))
 rintro _ w3 ⟨b37, rfl, hE3⟩
 replace hB := below_ext hB hE3 hsz
 replace hb1 := hb1.ext hE3
 replace hty_b1 := hty_b1.ext hE3
 replace hb2 := hb2.ext hE3
 replace hty_b2 := hty_b2.ext hE3
 replace hsz := Nat.le_trans hsz hE3.size
 refine l_q (q_not rfl rfl) (l_q (qmb rfl rfl) (l_part 39 rfl (fun hc4 => ?_) (fun hc4 => ?_)))
 ·
  replace hc4 := nt hc4
  refine l_q (q_skip rfl) (l_q (q_skip rfl) (l_q (q_skip rfl) (l_q (q_pick_t (v := .bool _) rfl rfl rfl) (l_q (qmb rfl rfl) (l_q (q_skip rfl) (l_q (q_skip rfl) (l_q (q_skip rfl) (l_q (q_skip rfl) (l_q (q_pick_t (v := .bool _) rfl rfl rfl) (l_q (qmb rfl rfl) (l_q (q_skip rfl) (l_q (q_skip rfl) (l_q (q_skip rfl) (l_q (q_skip rfl) (l_q (q_pick_t (v := .bool _) rfl rfl rfl) (l_q (qmb rfl rfl) (l_q (q_skip rfl) (l_q (q_skip rfl) (l_q (q_skip rfl) (l_q (q_pick_t (v := .bool _) rfl rfl rfl) (l_q (qmb rfl rfl) (l_q (q_skip rfl) (l_q (q_skip rfl) (l_q (q_skip rfl) (l_q (q_pick_t (v := .bool _) rfl rfl rfl) (l_q (qmb rfl rfl) (l_q (q_skip rfl) (l_q (q_skip rfl) (l_q (q_skip rfl) (l_q (q_pick_t (v := .bool _) rfl rfl rfl) (l_q (qmb rfl rfl) (l_q (q_skip rfl) (l_q (q_skip rfl) (l_q (q_skip rfl) (l_q (q_pick_t (v := .bool _) rfl rfl rfl) (l_q (qmb rfl rfl) (l_q (q_skip rfl) (l_q (q_skip rfl) ?_))))))))))))))))))))))))))))))))))))))
  refine l_q (q_skip rfl) (l_q (q_skip rfl) (l_q (q_pick_t (v := .bool _) rfl rfl rfl) (l_nil (r_forget [(2, .slice _ _ _), (3, .int _ _), (4, .int _ _), (5, .int _ _), (6, .int _ _), (7, .pointer _), (8, .pointer _), (81, .bool _)] ⟨rfl, rfl, rfl, rfl, rfl, rfl, rfl, rfl, trivial⟩ (fun e5 => (r_cond_t rfl (r_seq (r_region' (l_o (o_call Tryz.call9 rfl (overheard_ret _) rfl ?_))))))))))
  rintro _ w6 ⟨rfl, hE6⟩
  replace hB := below_ext hB hE6 hsz
  replace hb1 := hb1.ext hE6
  replace hty_b1 := hty_b1.ext hE6
  replace hb2 := hb2.ext hE6
  replace hty_b2 := hty_b2.ext hE6
  replace hsz := Nat.le_trans hsz hE6.size
  refine l_q (qab rfl rfl) (l_nil (r_ret_ (vs := [.bool _]) rfl Tryz.func3 rfl (.nil _) ⟨rfl, trivial⟩ ?_))
  exact ⟨rfl, Ext.of_below hB⟩
 ·
  replace hc4 := nf hc4
  refine l_q (q_load_agg (n := 4) Tryz.isAgg27 Tryz.sizeOf27 rfl ((hb1.cells' (cs' := [_, _, _, _]) 0 4 rfl)) rfl rfl) (l_o (o_call Tryz.call5 rfl (fault1_ret sa sc sl ra rc rl ka kc kl ua uc ul _ (hla.below hB) hlb) rfl ?_))
  rintro _ w7 ⟨r41, rfl, hok0, hE7⟩
  replace hB := below_ext hB hE7 hsz
  replace hb1 := hb1.ext hE7
  replace hty_b1 := hty_b1.ext hE7
  replace hb2 := hb2.ext hE7
  replace hty_b2 := hty_b2.ext hE7
  replace hsz := Nat.le_trans hsz hE7.size
  refine l_q (q_neq rfl rfl rfl) (l_q (q_pick_f (v := .bool _) rfl rfl rfl) (l_q (qmb rfl rfl) (l_part 44 rfl (fun hc8 => ?_) (fun hc8 => ?_))))
  ·
   replace hc8 := df (nt hc8)
   refine l_q (q_skip rfl) (l_q (q_skip rfl) (l_q (q_skip rfl) (l_q (q_skip rfl) (l_q (q_pick_t (v := .bool _) rfl rfl rfl) (l_q (qmb rfl rfl) (l_q (q_skip rfl) (l_q (q_skip rfl) (l_q (q_skip rfl) (l_q (q_skip rfl) (l_q (q_pick_t (v := .bool _) rfl rfl rfl) (l_q (qmb rfl rfl) (l_q (q_skip rfl) (l_q (q_skip rfl) (l_q (q_skip rfl) (l_q (q_pick_t (v := .bool _) rfl rfl rfl) (l_q (qmb rfl rfl) (l_q (q_skip rfl) (l_q (q_skip rfl) (l_q (q_skip rfl) (l_q (q_pick_t (v := .bool _) rfl rfl rfl) (l_q (qmb rfl rfl) (l_q (q_skip rfl) (l_q (q_skip rfl) (l_q (q_skip rfl) (l_q (q_pick_t (v := .bool _) rfl rfl rfl) (l_q (qmb rfl rfl) (l_q (q_skip rfl) (l_q (q_skip rfl) (l_q (q_skip rfl) (l_q (q_pick_t (v := .bool _) rfl rfl rfl) (l_q (qmb rfl rfl) (l_q (q_skip rfl) (l_q (q_skip rfl) (l_q (q_skip rfl) (l_q (q_skip rfl) (l_q (q_pick_t (v := .bool _) rfl rfl rfl) (l_nil ?_)))))))))))))))))))))))))))))))))))))
   refine r_forget [(2, .slice _ _ _), (3, .int _ _), (4, .int _ _), (5, .int _ _), (6, .int _ _), (7, .pointer _), (8, .pointer _), (81, .bool _)] ⟨rfl, rfl, rfl, rfl, rfl, rfl, rfl, rfl, trivial⟩ (fun e9 => (r_cond_t rfl (r_seq (r_region' (l_o (o_call Tryz.call9 rfl (overheard_ret _) rfl ?_))))))
   rintro _ w10 ⟨rfl, hE10⟩
   replace hB := below_ext hB hE10 hsz
   replace hb1 := hb1.ext hE10
   replace hty_b1 := hty_b1.ext hE10
   replace hb2 := hb2.ext hE10
   replace hty_b2 := hty_b2.ext hE10
   replace hsz := Nat.le_trans hsz hE10.size
   refine l_q (qab rfl rfl) (l_nil (r_ret_ (vs := [.bool _]) rfl Tryz.func3 rfl (.nil _) ⟨rfl, trivial⟩ ?_))
   exact ⟨rfl, Ext.of_below hB⟩
  ·
   replace hc8 := dt (nf hc8)
   have hok := hok0 hc8
   have hs6 := hok.s6
   have hr6 := hok.r6
   have hk4 := hok.k4
   have hu12 := hok.u12
   have hs0 := hok.s0
   have hk0 := hok.k0
   have hu0 := hok.u0
   refine l_q (q_fieldAddr (o' := 0) rfl fld27_0 rfl) (l_q (q_load Tryz.isAgg22 rfl ((hb1.has (o := 0) rfl)) rfl) (l_q (q_len rfl Tryz.underlying22 rfl rfl) (l_q (q_lss rfl rfl rfl) (l_q (q_pick_f (v := .bool _) rfl rfl rfl) (l_q (qmb rfl rfl) (l_part 50 rfl (fun hc11 => ?_) (fun hc11 => ?_)))))))
   ·
    replace hc11 := dt hc11
    refine l_q (q_skip rfl) (l_q (q_skip rfl) (l_q (q_skip rfl) (l_q (q_skip rfl) (l_q (q_pick_t (v := .bool _) rfl rfl rfl) (l_q (qmb rfl rfl) (l_q (q_skip rfl) (l_q (q_skip rfl) (l_q (q_skip rfl) (l_q (q_pick_t (v := .bool _) rfl rfl rfl) (l_q (qmb rfl rfl) (l_q (q_skip rfl) (l_q (q_skip rfl) (l_q (q_skip rfl) (l_q (q_pick_t (v := .bool _) rfl rfl rfl) (l_q (qmb rfl rfl) (l_q (q_skip rfl) (l_q (q_skip rfl) (l_q (q_skip rfl) (l_q (q_pick_t (v := .bool _) rfl rfl rfl) (l_q (qmb rfl rfl) (l_q (q_skip rfl) (l_q (q_skip rfl) (l_q (q_skip rfl) (l_q (q_pick_t (v := .bool _) rfl rfl rfl) (l_q (qmb rfl rfl) (l_q (q_skip rfl) (l_q (q_skip rfl) (l_q (q_skip rfl) (l_q (q_skip rfl) (l_q (q_pick_t (v := .bool _) rfl rfl rfl) (l_nil ?_)))))))))))))))))))))))))))))))
    refine r_forget [(2, .slice _ _ _), (3, .int _ _), (4, .int _ _), (5, .int _ _), (6, .int _ _), (7, .pointer _), (8, .pointer _), (81, .bool _)] ⟨rfl, rfl, rfl, rfl, rfl, rfl, rfl, rfl, trivial⟩ (fun e12 => (r_cond_t rfl (r_seq (r_region' (l_o (o_call Tryz.call9 rfl (overheard_ret _) rfl ?_))))))
    rintro _ w13 ⟨rfl, hE13⟩
    replace hB := below_ext hB hE13 hsz
    replace hb1 := hb1.ext hE13
    replace hty_b1 := hty_b1.ext hE13
    replace hb2 := hb2.ext hE13
    replace hty_b2 := hty_b2.ext hE13
    replace hsz := Nat.le_trans hsz hE13.size
    refine l_q (qab rfl rfl) (l_nil (r_ret_ (vs := [.bool _]) rfl Tryz.func3 rfl (.nil _) ⟨rfl, trivial⟩ ?_))
    exact ⟨rfl, Ext.of_below hB⟩
   ·
    replace hc11 := dlt hc11
    have hn2 := hc11
    refine l_q (q_fieldAddr (o' := 0) rfl fld27_0 rfl) (l_q (q_load Tryz.isAgg22 rfl ((hb1.has (o := 0) rfl)) rfl) (l_q (q_len rfl Tryz.underlying22 rfl rfl) (l_q (q_gtr rfl rfl rfl) (l_q (q_pick_f (v := .bool _) rfl rfl rfl) (l_q (qmb rfl rfl) (l_part 56 rfl (fun hc14 => ?_) (fun hc14 => ?_)))))))
    ·
     replace hc14 := dt hc14
     refine l_q (q_skip rfl) (l_q (q_skip rfl) (l_q (q_skip rfl) (l_q (q_pick_t (v := .bool _) rfl rfl rfl) (l_q (qmb rfl rfl) (l_q (q_skip rfl) (l_q (q_skip rfl) (l_q (q_skip rfl) (l_q (q_pick_t (v := .bool _) rfl rfl rfl) (l_q (qmb rfl rfl) (l_q (q_skip rfl) (l_q (q_skip rfl) (l_q (q_skip rfl) (l_q (q_pick_t (v := .bool _) rfl rfl rfl) (l_q (qmb rfl rfl) (l_q (q_skip rfl) (l_q (q_skip rfl) (l_q (q_skip rfl) (l_q (q_pick_t (v := .bool _) rfl rfl rfl) (l_q (qmb rfl rfl) (l_q (q_skip rfl) (l_q (q_skip rfl) (l_q (q_skip rfl) (l_q (q_skip rfl) (l_q (q_pick_t (v := .bool _) rfl rfl rfl) (l_nil (r_forget [(2, .slice _ _ _), (3, .int _ _), (4, .int _ _), (5, .int _ _), (6, .int _ _), (7, .pointer _), (8, .pointer _), (81, .bool _)] ⟨rfl, rfl, rfl, rfl, rfl, rfl, rfl, rfl, trivial⟩ (fun e15 => (r_cond_t rfl (r_seq (r_region' (l_o (o_call Tryz.call9 rfl (overheard_ret _) rfl ?_))))))))))))))))))))))))))))))))
     rintro _ w16 ⟨rfl, hE16⟩
     replace hB := below_ext hB hE16 hsz
     replace hb1 := hb1.ext hE16
     replace hty_b1 := hty_b1.ext hE16
     replace hb2 := hb2.ext hE16
     replace hty_b2 := hty_b2.ext hE16
     replace hsz := Nat.le_trans hsz hE16.size
     refine l_q (qab rfl rfl) (l_nil (r_ret_ (vs := [.bool _]) rfl Tryz.func3 rfl (.nil _) ⟨rfl, trivial⟩ ?_))
     exact ⟨rfl, Ext.of_below hB⟩
    ·
     replace hc14 := dlt hc14
     have hn4 := hc14
     refine l_q (q_load_agg (n := 1) Tryz.isAgg30 Tryz.sizeOf30 rfl ((hb2.cells' (cs' := [_]) 0 1 rfl)) rfl rfl) (l_o (o_call Tryz.call6 rfl (thin_ret a cc c [] _ (hrow.below hB) hcn (by simp)) rfl ?_))
     rintro _ w17 ⟨rfl, hE17⟩
     replace hB := below_ext hB hE17 hsz
     replace hb1 := hb1.ext hE17
     replace hty_b1 := hty_b1.ext hE17
     replace hb2 := hb2.ext hE17
     replace hty_b2 := hty_b2.ext hE17
     replace hsz := Nat.le_trans hsz hE17.size
     refine l_q (q_not rfl rfl) (l_q (q_pick_f (v := .bool _) rfl rfl rfl) (l_q (qmb rfl rfl) (l_part 61 rfl (fun hc18 => ?_) (fun hc18 => ?_))))
     ·
      replace hc18 := nt hc18
      refine l_q (q_skip rfl) (l_q (q_skip rfl) (l_q (q_skip rfl) (l_q (q_pick_t (v := .bool _) rfl rfl rfl) (l_q (qmb rfl rfl) (l_q (q_skip rfl) (l_q (q_skip rfl) (l_q (q_skip rfl) (l_q (q_pick_t (v := .bool _) rfl rfl rfl) (l_q (qmb rfl rfl) (l_q (q_skip rfl) (l_q (q_skip rfl) (l_q (q_skip rfl) (l_q (q_pick_t (v := .bool _) rfl rfl rfl) (l_q (qmb rfl rfl) (l_q (q_skip rfl) (l_q (q_skip rfl) (l_q (q_skip rfl) (l_q (q_skip rfl) (l_q (q_pick_t (v := .bool _) rfl rfl rfl) (l_nil (r_forget [(2, .slice _ _ _), (3, .int _ _), (4, .int _ _), (5, .int _ _), (6, .int _ _), (7, .pointer _), (8, .pointer _), (81, .bool _)] ⟨rfl, rfl, rfl, rfl, rfl, rfl, rfl, rfl, trivial⟩ (fun e19 => (r_cond_t rfl (r_seq (r_region' (l_o (o_call Tryz.call9 rfl (overheard_ret _) rfl ?_)))))))))))))))))))))))))))
      rintro _ w20 ⟨rfl, hE20⟩
      replace hB := below_ext hB hE20 hsz
      replace hb1 := hb1.ext hE20
      replace hty_b1 := hty_b1.ext hE20
      replace hb2 := hb2.ext hE20
      replace hty_b2 := hty_b2.ext hE20
      replace hsz := Nat.le_trans hsz hE20.size
      refine l_q (qab rfl rfl) (l_nil (r_ret_ (vs := [.bool _]) rfl Tryz.func3 rfl (.nil _) ⟨rfl, trivial⟩ ?_))
      exact ⟨rfl, Ext.of_below hB⟩
     ·
      replace hc18 := nf hc18
      refine l_q (q_load_agg (n := 1) Tryz.isAgg30 Tryz.sizeOf30 rfl ((hb2.cells' (cs' := [_]) 0 1 rfl)) rfl rfl) (l_o (o_call Tryz.call7 rfl (fault_ret a cc c _ (hrow.below hB) hcn) rfl ?_))
      rintro _ w21 ⟨rfl, hE21⟩
      replace hB := below_ext hB hE21 hsz
      replace hb1 := hb1.ext hE21
      replace hty_b1 := hty_b1.ext hE21
      replace hb2 := hb2.ext hE21
      replace hty_b2 := hty_b2.ext hE21
      replace hsz := Nat.le_trans hsz hE21.size
      refine l_q (q_neq rfl rfl rfl) (l_q (q_pick_f (v := .bool _) rfl rfl rfl) (l_q (qmb rfl rfl) (l_part 66 rfl (fun hc22 => ?_) (fun hc22 => ?_))))
      ·
       replace hc22 := df (nt hc22)
       refine l_q (q_skip rfl) (l_q (q_skip rfl) (l_q (q_skip rfl) (l_q (q_pick_t (v := .bool _) rfl rfl rfl) (l_q (qmb rfl rfl) (l_q (q_skip rfl) (l_q (q_skip rfl) (l_q (q_skip rfl) (l_q (q_pick_t (v := .bool _) rfl rfl rfl) (l_q (qmb rfl rfl) (l_q (q_skip rfl) (l_q (q_skip rfl) (l_q (q_skip rfl) (l_q (q_skip rfl) (l_q (q_pick_t (v := .bool _) rfl rfl rfl) (l_nil (r_forget [(2, .slice _ _ _), (3, .int _ _), (4, .int _ _), (5, .int _ _), (6, .int _ _), (7, .pointer _), (8, .pointer _), (81, .bool _)] ⟨rfl, rfl, rfl, rfl, rfl, rfl, rfl, rfl, trivial⟩ (fun e23 => (r_cond_t rfl (r_seq (r_region' (l_o (o_call Tryz.call9 rfl (overheard_ret _) rfl ?_))))))))))))))))))))))
       rintro _ w24 ⟨rfl, hE24⟩
       replace hB := below_ext hB hE24 hsz
       replace hb1 := hb1.ext hE24
       replace hty_b1 := hty_b1.ext hE24
       replace hb2 := hb2.ext hE24
       replace hty_b2 := hty_b2.ext hE24
       replace hsz := Nat.le_trans hsz hE24.size
       refine l_q (qab rfl rfl) (l_nil (r_ret_ (vs := [.bool _]) rfl Tryz.func3 rfl (.nil _) ⟨rfl, trivial⟩ ?_))
       exact ⟨rfl, Ext.of_below hB⟩
      ·
       replace hc22 := dt (nf hc22)
       have hf0 : fault c = 0 := hc22
       refine l_q (qms rfl rfl) (l_q (q_len rfl Tryz.underlying31 rfl rfl) (l_q (q_eql rfl rfl rfl) (l_q (q_pick_f (v := .bool _) rfl rfl rfl) (l_q (qmb rfl rfl) (l_part 71 rfl (fun hc25 => ?_) (fun hc25 => ?_))))))
       ·
        replace hc25 := dt hc25
        refine l_q (q_skip rfl) (l_q (q_skip rfl) (l_q (q_skip rfl) (l_q (q_pick_t (v := .bool _) rfl rfl rfl) (l_q (qmb rfl rfl) (l_q (q_skip rfl) (l_q (q_skip rfl) (l_q (q_skip rfl) (l_q (q_skip rfl) (l_q (q_pick_t (v := .bool _) rfl rfl rfl) (l_nil (r_forget [(2, .slice _ _ _), (3, .int _ _), (4, .int _ _), (5, .int _ _), (6, .int _ _), (7, .pointer _), (8, .pointer _), (81, .bool _)] ⟨rfl, rfl, rfl, rfl, rfl, rfl, rfl, rfl, trivial⟩ (fun e26 => (r_cond_t rfl (r_seq (r_region' (l_o (o_call Tryz.call9 rfl (overheard_ret _) rfl ?_)))))))))))))))))
        rintro _ w27 ⟨rfl, hE27⟩
        replace hB := below_ext hB hE27 hsz
        replace hb1 := hb1.ext hE27
        replace hty_b1 := hty_b1.ext hE27
        replace hb2 := hb2.ext hE27
        replace hty_b2 := hty_b2.ext hE27
        replace hsz := Nat.le_trans hsz hE27.size
        refine l_q (qab rfl rfl) (l_nil (r_ret_ (vs := [.bool _]) rfl Tryz.func3 rfl (.nil _) ⟨rfl, trivial⟩ ?_))
        exact ⟨rfl, Ext.of_below hB⟩
       ·
        replace hc25 := df hc25
        have htx1 := hc25
        refine l_q (qms rfl rfl) (l_q (q_len rfl Tryz.underlying31 rfl rfl) (l_q (q_gtr rfl rfl rfl) (l_q (q_pick_f (v := .bool _) rfl rfl rfl) (l_q (qmb rfl rfl) (l_part 76 rfl (fun hc28 => ?_) (fun hc28 => ?_))))))
        ·
         replace hc28 := dt hc28
         refine l_q (q_skip rfl) (l_q (q_skip rfl) (l_q (q_skip rfl) (l_q (q_skip rfl) (l_q (q_pick_t (v := .bool _) rfl rfl rfl) (l_nil (r_forget [(2, .slice _ _ _), (3, .int _ _), (4, .int _ _), (5, .int _ _), (6, .int _ _), (7, .pointer _), (8, .pointer _), (81, .bool _)] ⟨rfl, rfl, rfl, rfl, rfl, rfl, rfl, rfl, trivial⟩ (fun e29 => (r_cond_t rfl (r_seq (r_region' (l_o (o_call Tryz.call9 rfl (overheard_ret _) rfl ?_))))))))))))
         rintro _ w30 ⟨rfl, hE30⟩
         replace hB := below_ext hB hE30 hsz
         replace hb1 := hb1.ext hE30
         replace hty_b1 := hty_b1.ext hE30
         replace hb2 := hb2.ext hE30
         replace hty_b2 := hty_b2.ext hE30
         replace hsz := Nat.le_trans hsz hE30.size
         refine l_q (qab rfl rfl) (l_nil (r_ret_ (vs := [.bool _]) rfl Tryz.func3 rfl (.nil _) ⟨rfl, trivial⟩ ?_))
         exact ⟨rfl, Ext.of_below hB⟩
        ·
         replace hc28 := dlt hc28
         have htx5 := hc28
         refine l_q (q_load_agg (n := 1) Tryz.isAgg30 Tryz.sizeOf30 rfl ((hb2.cells' (cs' := [_]) 0 1 rfl)) rfl rfl) (l_q (qms rfl rfl) (l_o (o_call Tryz.call8 rfl (isText_ret a cc c xa xc tx _ (hrow.below hB) hcn (hx.below hB) hxn) rfl ?_)))
         rintro _ w31 ⟨rfl, hE31⟩
         replace hB := below_ext hB hE31 hsz
         replace hb1 := hb1.ext hE31
         replace hty_b1 := hty_b1.ext hE31
         replace hb2 := hb2.ext hE31
         replace hty_b2 := hty_b2.ext hE31
         replace hsz := Nat.le_trans hsz hE31.size
         refine l_q (q_not rfl rfl) (l_q (q_pick_f (v := .bool _) rfl rfl rfl) (l_nil (r_forget [(2, .slice _ _ _), (3, .int _ _), (4, .int _ _), (5, .int _ _), (6, .int _ _), (7, .pointer _), (8, .pointer _), (81, .bool _)] ⟨rfl, rfl, rfl, rfl, rfl, rfl, rfl, rfl, trivial⟩ (fun e32 => (r_cond rfl (fun hc33 => ?_) (fun hc33 => ?_))))))
         ·
          replace hc33 := nt hc33
          refine r_seq (r_region' (l_o (o_call Tryz.call9 rfl (overheard_ret _) rfl ?_)))
          rintro _ w34 ⟨rfl, hE34⟩
          replace hB := below_ext hB hE34 hsz
          replace hb1 := hb1.ext hE34
          replace hty_b1 := hty_b1.ext hE34
          replace hb2 := hb2.ext hE34
          replace hty_b2 := hty_b2.ext hE34
          replace hsz := Nat.le_trans hsz hE34.size
          refine l_q (qab rfl rfl) (l_nil (r_ret_ (vs := [.bool _]) rfl Tryz.func3 rfl (.nil _) ⟨rfl, trivial⟩ ?_))
          exact ⟨rfl, Ext.of_below hB⟩
         ·
          replace hc33 := nf hc33
          have hit : isText c tx = true := hc33
          refine r_skip (r_seq (r_region' (l_q (q_fieldAddr (o' := 0) rfl fld27_0 rfl) (l_q (q_load Tryz.isAgg22 rfl ((hb1.has (o := 0) rfl)) rfl) (l_q (q_len rfl Tryz.underlying22 rfl rfl) (l_q (qai rfl rfl) (l_nil (r_seq (r_region' (l_q (qmi rfl rfl) (l_q (q_toInt Tryz.underlying5 Tryz.underlying3 rfl (by omega) rfl) (l_q (qmi rfl rfl) (l_q (q_rem rfl rfl (by omega) rfl) (l_q (qai rfl rfl) (l_nil (r_seq ?_))))))))))))))))
          have hq16 := Int.emod_nonneg wh (show (sl.length : Int) ≠ 0 by omega)
          have hq16b := Int.emod_lt_of_pos wh (show (0 : Int) < sl.length by omega)
          obtain ⟨fr, hfr⟩ : ∃ n : Nat, wh % (sl.length : Int) = (n : Int) := ⟨_, (Int.toNat_of_nonneg hq16).symm⟩
          have hfl : fr < sl.length := by omega
          have hq17 := Int.emod_nonneg ot (show (sl.length : Int) - 1 ≠ 0 by omega)
          have hq17b := Int.emod_lt_of_pos ot (show (0 : Int) < (sl.length : Int) - 1 by omega)
          refine r_forget [(2, .slice _ _ _), (3, .int _ _), (4, .int _ _), (5, .int _ _), (6, .int _ _), (7, .pointer _), (8, .pointer _), (15, .int _ _), (16, vint (fr : Int)), (81, .bool _), (83, .pointer _), (84, .slice _ _ _), (85, .int _ _), (86, .int _ _), (87, .int _ _), (88, .int _ _), (89, .int _ _)] ⟨rfl, rfl, rfl, rfl, rfl, rfl, rfl, rfl, vint_eq hfr, rfl, rfl, rfl, rfl, rfl, rfl, rfl, rfl, trivial⟩ (fun e35 => (r_region' (l_q (qmi rfl rfl) (l_q (q_add rfl rfl (by omega) rfl) (l_q (qmi rfl rfl) (l_q (q_toInt Tryz.underlying5 Tryz.underlying3 rfl (by omega) rfl) (l_q (qmi rfl rfl) (l_q (q_sub rfl rfl (by omega) rfl) (l_q (q_rem rfl rfl (by omega) rfl) (l_q (q_add rfl rfl (by omega) rfl) (l_q (qmi rfl rfl) (l_q (q_rem rfl rfl (by omega) rfl) (l_q (qai rfl rfl) (l_nil ?_))))))))))))))
          refine r_forget [(2, .slice _ _ _), (5, .int _ _), (6, .int _ _), (7, .pointer _), (8, .pointer _), (15, .int _ _), (16, .int _ _), (17, .int _ _)] ⟨rfl, rfl, rfl, rfl, rfl, rfl, rfl, rfl, trivial⟩ (fun e36 => (r_seq (r_region' (l_q (qmi rfl rfl) (l_q (q_toInt Tryz.underlying5 Tryz.underlying3 rfl (by omega) rfl) (l_q (q_fieldAddr (o' := 2) rfl fld27_2 rfl) (l_q (q_load Tryz.isAgg24 rfl ((hb1.has (o := 2) rfl)) rfl) (l_q (q_len rfl Tryz.underlying24 rfl rfl) (l_q (q_rem rfl rfl (by omega) rfl) (l_q (qai rfl rfl) (l_nil (r_seq ?_))))))))))))
          obtain ⟨bad, hbad⟩ : ∃ n : Nat, (((fr : Int) + 1) + (ot % ((sl.length : Int) - 1))) % (sl.length : Int) = (n : Int) := ⟨_, (Int.toNat_of_nonneg (Int.emod_nonneg _ (by omega))).symm⟩
          obtain ⟨hbl, hbn⟩ := bad_ne hfl ⟨hq17, hq17b⟩ hbad
          have hq18 := Int.emod_nonneg ks (show (kl.length : Int) ≠ 0 by omega)
          have hq18b := Int.emod_lt_of_pos ks (show (0 : Int) < kl.length by omega)
          obtain ⟨ki, hki⟩ : ∃ n : Nat, ks % (kl.length : Int) = (n : Int) := ⟨_, (Int.toNat_of_nonneg hq18).symm⟩
          have hgk : ki < kl.length := by omega
          refine r_forget [(2, .slice _ _ _), (5, .int _ _), (6, .int _ _), (7, .pointer _), (8, .pointer _), (15, .int _ _), (16, .int _ _), (17, vint (bad : Int)), (18, vint (ki : Int)), (100, .int _ _), (101, .int _ _), (102, .pointer _), (103, .slice _ _ _), (104, .int _ _), (105, .int _ _)] ⟨rfl, rfl, rfl, rfl, rfl, rfl, rfl, vint_eq hbad, vint_eq hki, rfl, rfl, rfl, rfl, rfl, rfl, trivial⟩ (fun e37 => (r_region' (l_q (q_load_agg (n := 1) Tryz.isAgg30 Tryz.sizeOf30 rfl ((hb2.cells' (cs' := [_]) 0 1 rfl)) rfl rfl) (l_o (o_call Tryz.call10 rfl (code6_ret a cc c _ (hrow.below hB) hcn) rfl ?_)))))
          rintro _ w38 ⟨ca, cc2, rfl, hcd, hE38⟩
          replace hcd := own_mono hcd (show w.heap.size ≤ _ by omega)
          replace hB := below_ext hB hE38 hsz
          replace hb1 := hb1.ext hE38
          replace hty_b1 := hty_b1.ext hE38
          replace hb2 := hb2.ext hE38
          replace hty_b2 := hty_b2.ext hE38
          replace hsz := Nat.le_trans hsz hE38.size
          refine l_q (q_build (v := .agg ⟨[.slice ca c.length cc2, vint 0, .slice none 0 0, .slice none 0 0, .slice none 0 0]⟩) (fun w => by kernel_rfl) rfl) (l_o (o_alloct Tryz.zeroValue43 rfl rfl ?_))
          intro b39 w39 hzl39 hzr39 _ hb39 hty_b39 hE39
          have hne_b1_b39 : b1 ≠ b39 := by have := hb1.lt; omega
          have hne_b2_b39 : b2 ≠ b39 := by have := hb2.lt; omega
          have hbs_b39 : w.heap.size ≤ b39 := Nat.le_trans hsz hzl39
          replace hB := below_ext hB hE39 hsz
          replace hb1 := hb1.ext hE39
          replace hty_b1 := hty_b1.ext hE39
          replace hb2 := hb2.ext hE39
          replace hty_b2 := hty_b2.ext hE39
          replace hcd := own_ext hcd hE39
          replace hsz := Nat.le_trans hsz hE39.size
          refine l_o (o_storet (vs := [.slice ca c.length cc2, vint 0, .slice none 0 0, .slice none 0 0, .slice none 0 0]) (cs' := [.slice ca c.length cc2, vint 0, .slice none 0 0, .slice none 0 0, .slice none 0 0]) Tryz.sizeOf43 rfl rfl rfl rfl hb39 (Nat.le_of_ble_eq_true rfl) rfl rfl ?_)
          intro w40 hz40 hb39 hT40 hG40
          replace hB := below_upd hB hG40 hsz (by omega)
          replace hsz : w.heap.size ≤ w40.heap.size := by rw [hz40]; exact hsz
          replace hb1 := hb1.upd hG40 (by omega)
          replace hty_b1 := hty_b1.upd hG40 (by omega)
          replace hb2 := hb2.upd hG40 (by omega)
          replace hty_b2 := hty_b2.upd hG40 (by omega)
          replace hcd := own_ty_upd hcd hty_b39 hG40 (by decide)
          replace hty_b39 := hT40 _ hty_b39
          refine l_nil (r_forget [(2, .slice _ _ _), (6, .int _ _), (7, .pointer _), (15, .int _ _), (16, .int _ _), (17, .int _ _), (18, .int _ _), (19, .pointer _)] ⟨rfl, rfl, rfl, rfl, rfl, rfl, rfl, rfl, trivial⟩ (fun e41 => (r_seq (r_seq (r_region' (l_q (qai rfl rfl) (l_nil (r_block ?_))))))))
          refine r_rounds (α := Nat × (Option Addr) × Nat × (List Int)) (fun ⟨s0, ea, ec, E⟩ e wl => Knows e [(2, .slice xa tx.length xc), (6, .int .u8 wn), (7, ptr b1 0), (15, vint (sl.length : Int)), (16, vint (fr : Int)), (17, vint (bad : Int)), (18, vint (ki : Int)), (19, ptr b39 0), (20, vint (s0 : Int))] ∧ (s0 ≤ sl.length) ∧ (E = seesL sl rl kl ul bad ki s0) ∧ (E.length = s0) ∧ (Blk wl b39 [.slice ca c.length cc2, vint 0, .slice ea E.length ec, .slice none 0 0, .slice none 0 0]) ∧ (wl.ownsRow w.heap.size 3 1 (.slice ea E.length ec) E.length (E.map vint)) ∧ (Blk wl b1 [.slice sa sl.length sc, .slice ra rl.length rc, .slice ka kl.length kc, .slice ua ul.length uc]) ∧ (TyAt wl b1 27) ∧ (Blk wl b2 [.slice a c.length cc]) ∧ (TyAt wl b2 30) ∧ (wl.ownsRow w.heap.size 9 1 (.slice ca c.length cc2) c.length (c.map vstr)) ∧ (TyAt wl b39 43) ∧ (w.heap.size ≤ wl.heap.size) ∧ (Below w.heap.size w wl)) (fun ⟨s0, ea, ec, E⟩ => sl.length - s0) (0, none, 0, []) ?_ ?_
          ·
           exact ⟨⟨rfl, rfl, rfl, rfl, rfl, rfl, rfl, rfl, rfl, trivial⟩, (Nat.zero_le _), rfl, rfl, hb39, (World.ownsRow_nil _ _ _ _), hb1, hty_b1, hb2, hty_b2, hcd, hty_b39, hsz, hB⟩
          ·
           rintro ⟨s0, ea, ec, E⟩ el42 wl42 ⟨hkn, hs0, hE, hEl, hb39, heo, hb1, hty_b1, hb2, hty_b2, hcd, hty_b39, hsz, hB⟩ ih42
           obtain ⟨e42, rfl⟩ := knows_env hkn
           refine r_seq (r_seq (r_region' (l_q (qmi rfl rfl) (l_q (qmi rfl rfl) (l_q (q_lss rfl rfl rfl) (l_nil (r_cond rfl (fun hc43 => ?_) (fun hc43 => ?_))))))))
           ·
            replace hc43 := dt hc43
            have hsl : s0 < sl.length := by omega
            refine r_skip (r_seq (r_block (r_seq (r_region' (l_q (qai rfl rfl) (l_nil (r_seq (r_seq (r_region' (l_q (qmi rfl rfl) (l_q (qmi rfl rfl) (l_q (q_neq rfl rfl rfl) (l_nil (r_cond rfl (fun hc44 => ?_) (fun hc44 => ?_)))))))))))))))
            ·
             replace hc44 := df (nt hc44)
             have hsb : s0 ≠ bad := by omega
             refine r_seq (r_region' (l_q (q_load_agg (n := 4) Tryz.isAgg27 Tryz.sizeOf27 rfl ((hb1.cells' (cs' := [_, _, _, _]) 0 4 rfl)) rfl rfl) (l_o (o_call Tryz.call12 rfl (land1_ret sa sc sl ra rc rl ka kc kl ua uc ul _ (hla.below hB) hlb) rfl ?_))))
             rintro _ w45 ⟨lsa45, lsc45, lra45, lrc45, lka45, lkc45, klq45, lua45, luc45, rfl, hlq45, hmq45, hE45⟩
             replace hB := below_ext hB hE45 hsz
             replace hb1 := hb1.ext hE45
             replace hty_b1 := hty_b1.ext hE45
             replace hb2 := hb2.ext hE45
             replace hty_b2 := hty_b2.ext hE45
             replace hcd := own_ext hcd hE45
             replace hb39 := hb39.ext hE45
             replace hty_b39 := hty_b39.ext hE45
             replace heo := own_ext heo hE45
             replace hsz := Nat.le_trans hsz hE45.size
             refine l_q (qmi rfl rfl) (l_q (qmi rfl rfl) (l_q (qmi rfl rfl) (l_o (o_call Tryz.call11 rfl (Hours2_ret lsa45 lsc45 sl lra45 lrc45 rl lka45 lkc45 klq45 lua45 luc45 ul kl s0 bad ki _ hlq45 hmq45 hok hsl hbl hgk hsb) rfl ?_))))
             rintro _ w46 ⟨oa46, oc46, rfl, hro46, hE46⟩
             replace hB := below_ext hB hE46 hsz
             replace hb1 := hb1.ext hE46
             replace hty_b1 := hty_b1.ext hE46
             replace hb2 := hb2.ext hE46
             replace hty_b2 := hty_b2.ext hE46
             replace hcd := own_ext hcd hE46
             replace hb39 := hb39.ext hE46
             replace hty_b39 := hty_b39.ext hE46
             replace heo := own_ext heo hE46
             replace hsz := Nat.le_trans hsz hE46.size
             refine l_q (q_move (v := .tuple _) rfl rfl) (l_q (q_extract (vs := [_, _]) (v := .slice _ _ _) rfl rfl rfl) (l_q (q_extract (vs := [_, _]) (v := .int _ _) rfl rfl rfl) (l_q (qas rfl rfl) (l_q (qai rfl rfl) (l_nil (r_forget [(2, .slice _ _ _), (6, .int _ _), (7, .pointer _), (15, .int _ _), (16, .int _ _), (17, .int _ _), (18, .int _ _), (19, .pointer _), (20, .int _ _), (21, .int _ _), (22, .slice _ _ _), (23, .int _ _)] ⟨rfl, rfl, rfl, rfl, rfl, rfl, rfl, rfl, rfl, rfl, rfl, rfl, trivial⟩ (fun e47 => (r_seq (r_seq (r_region' (l_q (qmi rfl rfl) (l_q (q_neq rfl rfl rfl) (l_nil ?_)))))))))))))
             have hk48 : (!decide (0 = 0)) = false := by decide
             refine r_cond_f ((congrArg Value.bool hk48 : Value.bool _ = _)) (r_skip (r_seq (r_region' (l_q (qms rfl rfl) (l_q (q_len rfl Tryz.underlying31 rfl rfl) (l_q (q_gtr rfl rfl rfl) (l_nil (r_cond rfl (fun hc49 => ?_) (fun hc49 => ?_)))))))))
             ·
              replace hc49 := dt hc49
              refine r_region' (l_q (qms rfl rfl) ?_)
              obtain ⟨b50, o50, ha50, hh50⟩ := hro46.at1 0 (((hrsF (fun q => canF sl rl kl ul s0 bad ki q) ul.length)).getD 0 0) (getD_some (by omega))
              refine l_q (q_indexAddr1 Tryz.underlying31 Tryz.sizeOf3 rfl ha50 rfl (by omega) rfl) (l_q (q_load Tryz.isAgg3 rfl (hh50) rfl) (l_q (qai rfl rfl) (l_nil (r_forget [(2, .slice _ _ _), (6, .int _ _), (7, .pointer _), (15, .int _ _), (16, .int _ _), (17, .int _ _), (18, .int _ _), (19, .pointer _), (20, .int _ _), (21, .int _ _)] ⟨rfl, rfl, rfl, rfl, rfl, rfl, rfl, rfl, rfl, rfl, trivial⟩ (fun e51 => (r_region' (l_q (q_fieldAddr (o' := 2) rfl fld43_2 rfl) (l_q (q_load Tryz.isAgg31 rfl ((hb39.has (o := 2) rfl)) rfl) (l_q (qmi rfl rfl) (l_o (o_buildSlice (el := 3) (cs := [vint (((hrsF (fun q => canF sl rl kl ul s0 bad ki q) ul.length)).getD 0 0)]) Tryz.underlying31 el3 (by decide) (by kernel_rfl) rfl (by decide) rfl ?_)))))))))))
              intro b52 w52 hzl52 hzr52 _ hb52 hE52 ho52
              have hne_b1_b52 : b1 ≠ b52 := by have := hb1.lt; omega
              have hne_b2_b52 : b2 ≠ b52 := by have := hb2.lt; omega
              have hne_b39_b52 : b39 ≠ b52 := by have := hb39.lt; omega
              have hbs_b52 : w.heap.size ≤ b52 := Nat.le_trans hsz hzl52
              replace hB := below_ext hB hE52 hsz
              replace hb1 := hb1.ext hE52
              replace hty_b1 := hty_b1.ext hE52
              replace hb2 := hb2.ext hE52
              replace hty_b2 := hty_b2.ext hE52
              replace hcd := own_ext hcd hE52
              replace hb39 := hb39.ext hE52
              replace hty_b39 := hty_b39.ext hE52
              replace heo := own_ext heo hE52
              replace hsz := Nat.le_trans hsz hE52.size
              refine l_o (o_append_map (f := vint) (E) ([((hrsF (fun q => canF sl rl kl ul s0 bad ki q) ul.length)).getD 0 0]) Tryz.underlying31 el3 rfl rfl heo rfl (Row.of_owns ho52) (fun _ => rfl) (by (try simp only [List.length_append, List.length_cons, List.length_nil, List.length_take, List.length_drop, List.length_replicate]); omega) (by omega) rfl ?_)
              intro a53 c53 w53 hz53 ho53 hG53
              replace hB := below_own hB hG53 heo (by omega) hsz
              replace hsz := Nat.le_trans hsz hG53.size
              replace hb1 := hb1.step hG53 (own_ty_ne heo hty_b1 (by decide))
              replace hb2 := hb2.step hG53 (own_ty_ne heo hty_b2 (by decide))
              replace hcd := own_kept hcd heo (by decide) hG53
              replace hb39 := hb39.step hG53 (own_ty_ne heo hty_b39 (by decide))
              replace hty_b1 := TyAt.own hty_b1 heo hG53 (by decide)
              replace hty_b2 := TyAt.own hty_b2 heo hG53 (by decide)
              replace hty_b39 := TyAt.own hty_b39 heo hG53 (by decide)
              refine l_q (q_fieldAddr (o' := 2) rfl fld43_2 rfl) (l_o (o_storet (vs := [.slice a53 ((E ++ [((hrsF (fun q => canF sl rl kl ul s0 bad ki q) ul.length)).getD 0 0]).length) c53]) (cs' := [.slice ca c.length cc2, vint 0, .slice a53 ((E ++ [((hrsF (fun q => canF sl rl kl ul s0 bad ki q) ul.length)).getD 0 0]).length) c53, .slice none 0 0, .slice none 0 0]) Tryz.sizeOf31 rfl rfl rfl rfl hb39 (Nat.le_of_ble_eq_true rfl) rfl rfl ?_))
              intro w54 hz54 hb39 hT54 hG54
              replace hB := below_upd hB hG54 hsz (by omega)
              replace hsz : w.heap.size ≤ w54.heap.size := by rw [hz54]; exact hsz
              replace hb1 := hb1.upd hG54 (by omega)
              replace hty_b1 := hty_b1.upd hG54 (by omega)
              replace hb2 := hb2.upd hG54 (by omega)
              replace hty_b2 := hty_b2.upd hG54 (by omega)
              replace hcd := own_ty_upd hcd hty_b39 hG54 (by decide)
              replace ho53 := own_ty_upd ho53 hty_b39 hG54 (by decide)
              replace hty_b39 := hT54 _ hty_b39
              refine l_nil (r_inBlock (r_region' (l_q (qmi rfl rfl) (l_q (q_add rfl rfl (by omega) rfl) (l_q (qai rfl rfl) (l_nil ?_))))))
              exact ih42 (s0 + 1, a53, c53, E ++ [((hrsF (fun q => canF sl rl kl ul s0 bad ki q) ul.length)).getD 0 0]) _ _ ⟨⟨rfl, rfl, rfl, rfl, rfl, rfl, rfl, rfl, (vint_eq (by omega)), trivial⟩, (by omega), (by rw [hE]; first | exact sees_a (by omega) | exact sees_b hsb (by omega) | exact sees_c hsb (by omega)), (by rw [List.length_append, hEl]; rfl), hb39, ho53, hb1, hty_b1, hb2, hty_b2, hcd, hty_b39, hsz, hB⟩ (by first | omega | (dsimp only; omega))
             ·
              replace hc49 := dlt hc49
              refine r_skip (r_region' (l_q (q_fieldAddr (o' := 2) rfl fld43_2 rfl) (l_q (q_load Tryz.isAgg31 rfl ((hb39.has (o := 2) rfl)) rfl) (l_q (qmi rfl rfl) (l_o (o_buildSlice (el := 3) (cs := [vint (-1)]) Tryz.underlying31 el3 (by decide) (by kernel_rfl) rfl (by decide) rfl ?_))))))
              intro b55 w55 hzl55 hzr55 _ hb55 hE55 ho55
              have hne_b1_b55 : b1 ≠ b55 := by have := hb1.lt; omega
              have hne_b2_b55 : b2 ≠ b55 := by have := hb2.lt; omega
              have hne_b39_b55 : b39 ≠ b55 := by have := hb39.lt; omega
              have hbs_b55 : w.heap.size ≤ b55 := Nat.le_trans hsz hzl55
              replace hB := below_ext hB hE55 hsz
              replace hb1 := hb1.ext hE55
              replace hty_b1 := hty_b1.ext hE55
              replace hb2 := hb2.ext hE55
              replace hty_b2 := hty_b2.ext hE55
              replace hcd := own_ext hcd hE55
              replace hb39 := hb39.ext hE55
              replace hty_b39 := hty_b39.ext hE55
              replace heo := own_ext heo hE55
              replace hsz := Nat.le_trans hsz hE55.size
              refine l_o (o_append_map (f := vint) (E) ([(-1)]) Tryz.underlying31 el3 rfl rfl heo rfl (Row.of_owns ho55) (fun _ => rfl) (by (try simp only [List.length_append, List.length_cons, List.length_nil, List.length_take, List.length_drop, List.length_replicate]); omega) (by omega) rfl ?_)
              intro a56 c56 w56 hz56 ho56 hG56
              replace hB := below_own hB hG56 heo (by omega) hsz
              replace hsz := Nat.le_trans hsz hG56.size
              replace hb1 := hb1.step hG56 (own_ty_ne heo hty_b1 (by decide))
              replace hb2 := hb2.step hG56 (own_ty_ne heo hty_b2 (by decide))
              replace hcd := own_kept hcd heo (by decide) hG56
              replace hb39 := hb39.step hG56 (own_ty_ne heo hty_b39 (by decide))
              replace hty_b1 := TyAt.own hty_b1 heo hG56 (by decide)
              replace hty_b2 := TyAt.own hty_b2 heo hG56 (by decide)
              replace hty_b39 := TyAt.own hty_b39 heo hG56 (by decide)
              refine l_q (q_fieldAddr (o' := 2) rfl fld43_2 rfl) (l_o (o_storet (vs := [.slice a56 ((E ++ [(-1)]).length) c56]) (cs' := [.slice ca c.length cc2, vint 0, .slice a56 ((E ++ [(-1)]).length) c56, .slice none 0 0, .slice none 0 0]) Tryz.sizeOf31 rfl rfl rfl rfl hb39 (Nat.le_of_ble_eq_true rfl) rfl rfl ?_))
              intro w57 hz57 hb39 hT57 hG57
              replace hB := below_upd hB hG57 hsz (by omega)
              replace hsz : w.heap.size ≤ w57.heap.size := by rw [hz57]; exact hsz
              replace hb1 := hb1.upd hG57 (by omega)
              replace hty_b1 := hty_b1.upd hG57 (by omega)
              replace hb2 := hb2.upd hG57 (by omega)
              replace hty_b2 := hty_b2.upd hG57 (by omega)
              replace hcd := own_ty_upd hcd hty_b39 hG57 (by decide)
              replace ho56 := own_ty_upd ho56 hty_b39 hG57 (by decide)
              replace hty_b39 := hT57 _ hty_b39
              refine l_nil (r_forget [(2, .slice _ _ _), (6, .int _ _), (7, .pointer _), (15, .int _ _), (16, .int _ _), (17, .int _ _), (18, .int _ _), (19, .pointer _), (20, .int _ _)] ⟨rfl, rfl, rfl, rfl, rfl, rfl, rfl, rfl, rfl, trivial⟩ (fun e58 => (r_inBlock (r_region' (l_q (qmi rfl rfl) (l_q (q_add rfl rfl (by omega) rfl) (l_q (qai rfl rfl) (l_nil ?_))))))))
              exact ih42 (s0 + 1, a56, c56, E ++ [(-1)]) _ _ ⟨⟨rfl, rfl, rfl, rfl, rfl, rfl, rfl, rfl, (vint_eq (by omega)), trivial⟩, (by omega), (by rw [hE]; first | exact sees_a (by omega) | exact sees_b hsb (by omega) | exact sees_c hsb (by omega)), (by rw [List.length_append, hEl]; rfl), hb39, ho56, hb1, hty_b1, hb2, hty_b2, hcd, hty_b39, hsz, hB⟩ (by first | omega | (dsimp only; omega))
            ·
             replace hc44 := dt (nf hc44)
             refine r_skip (r_region' (l_q (q_fieldAddr (o' := 2) rfl fld43_2 rfl) (l_q (q_load Tryz.isAgg31 rfl ((hb39.has (o := 2) rfl)) rfl) (l_q (qmi rfl rfl) (l_o (o_buildSlice (el := 3) (cs := [vint (-1)]) Tryz.underlying31 el3 (by decide) (by kernel_rfl) rfl (by decide) rfl ?_))))))
             intro b59 w59 hzl59 hzr59 _ hb59 hE59 ho59
             have hne_b1_b59 : b1 ≠ b59 := by have := hb1.lt; omega
             have hne_b2_b59 : b2 ≠ b59 := by have := hb2.lt; omega
             have hne_b39_b59 : b39 ≠ b59 := by have := hb39.lt; omega
             have hbs_b59 : w.heap.size ≤ b59 := Nat.le_trans hsz hzl59
             replace hB := below_ext hB hE59 hsz
             replace hb1 := hb1.ext hE59
             replace hty_b1 := hty_b1.ext hE59
             replace hb2 := hb2.ext hE59
             replace hty_b2 := hty_b2.ext hE59
             replace hcd := own_ext hcd hE59
             replace hb39 := hb39.ext hE59
             replace hty_b39 := hty_b39.ext hE59
             replace heo := own_ext heo hE59
             replace hsz := Nat.le_trans hsz hE59.size
             refine l_o (o_append_map (f := vint) (E) ([(-1)]) Tryz.underlying31 el3 rfl rfl heo rfl (Row.of_owns ho59) (fun _ => rfl) (by (try simp only [List.length_append, List.length_cons, List.length_nil, List.length_take, List.length_drop, List.length_replicate]); omega) (by omega) rfl ?_)
             intro a60 c60 w60 hz60 ho60 hG60
             replace hB := below_own hB hG60 heo (by omega) hsz
             replace hsz := Nat.le_trans hsz hG60.size
             replace hb1 := hb1.step hG60 (own_ty_ne heo hty_b1 (by decide))
             replace hb2 := hb2.step hG60 (own_ty_ne heo hty_b2 (by decide))
             replace hcd := own_kept hcd heo (by decide) hG60
             replace hb39 := hb39.step hG60 (own_ty_ne heo hty_b39 (by decide))
             replace hty_b1 := TyAt.own hty_b1 heo hG60 (by decide)
             replace hty_b2 := TyAt.own hty_b2 heo hG60 (by decide)
             replace hty_b39 := TyAt.own hty_b39 heo hG60 (by decide)
             refine l_q (q_fieldAddr (o' := 2) rfl fld43_2 rfl) (l_o (o_storet (vs := [.slice a60 ((E ++ [(-1)]).length) c60]) (cs' := [.slice ca c.length cc2, vint 0, .slice a60 ((E ++ [(-1)]).length) c60, .slice none 0 0, .slice none 0 0]) Tryz.sizeOf31 rfl rfl rfl rfl hb39 (Nat.le_of_ble_eq_true rfl) rfl rfl ?_))
             intro w61 hz61 hb39 hT61 hG61
             replace hB := below_upd hB hG61 hsz (by omega)
             replace hsz : w.heap.size ≤ w61.heap.size := by rw [hz61]; exact hsz
             replace hb1 := hb1.upd hG61 (by omega)
             replace hty_b1 := hty_b1.upd hG61 (by omega)
             replace hb2 := hb2.upd hG61 (by omega)
             replace hty_b2 := hty_b2.upd hG61 (by omega)
             replace hcd := own_ty_upd hcd hty_b39 hG61 (by decide)
             replace ho60 := own_ty_upd ho60 hty_b39 hG61 (by decide)
             replace hty_b39 := hT61 _ hty_b39
             refine l_nil (r_forget [(2, .slice _ _ _), (6, .int _ _), (7, .pointer _), (15, .int _ _), (16, .int _ _), (17, .int _ _), (18, .int _ _), (19, .pointer _), (20, .int _ _)] ⟨rfl, rfl, rfl, rfl, rfl, rfl, rfl, rfl, rfl, trivial⟩ (fun e62 => (r_inBlock (r_region' (l_q (qmi rfl rfl) (l_q (q_add rfl rfl (by omega) rfl) (l_q (qai rfl rfl) (l_nil ?_))))))))
             exact ih42 (s0 + 1, a60, c60, E ++ [(-1)]) _ _ ⟨⟨rfl, rfl, rfl, rfl, rfl, rfl, rfl, rfl, (vint_eq (by omega)), trivial⟩, (by omega), (by rw [hE]; first | exact sees_a (by omega) | exact sees_b hsb (by omega) | exact sees_c hsb (by omega)), (by rw [List.length_append, hEl]; rfl), hb39, ho60, hb1, hty_b1, hb2, hty_b2, hcd, hty_b39, hsz, hB⟩ (by first | omega | (dsimp only; omega))
           ·
            replace hc43 := dlt hc43
            refine r_exit rfl (r_seq ?_)
            have hse : s0 = sl.length := by omega
            have hEe : E = seesL sl rl kl ul bad ki sl.length := by rw [hE, hse]
            have hEn : E.length = sl.length := by omega
            have hEg : E.getD fr 0 = seeF sl rl kl ul bad ki fr := by rw [hEe, sees_get hfl]
            refine r_region' (l_q (q_load_agg (n := 4) Tryz.isAgg27 Tryz.sizeOf27 rfl ((hb1.cells' (cs' := [_, _, _, _]) 0 4 rfl)) rfl rfl) (l_o (o_call Tryz.call12 rfl (land1_ret sa sc sl ra rc rl ka kc kl ua uc ul _ (hla.below hB) hlb) rfl ?_)))
            rintro _ w63 ⟨lsa63, lsc63, lra63, lrc63, lka63, lkc63, klq63, lua63, luc63, rfl, hlq63, hmq63, hE63⟩
            replace hB := below_ext hB hE63 hsz
            replace hb1 := hb1.ext hE63
            replace hty_b1 := hty_b1.ext hE63
            replace hb2 := hb2.ext hE63
            replace hty_b2 := hty_b2.ext hE63
            replace hcd := own_ext hcd hE63
            replace hb39 := hb39.ext hE63
            replace hty_b39 := hty_b39.ext hE63
            replace heo := own_ext heo hE63
            replace hsz := Nat.le_trans hsz hE63.size
            refine l_q (qmi rfl rfl) (l_q (qmi rfl rfl) (l_q (qmi rfl rfl) (l_o (o_call Tryz.call11 rfl (Hours2_ret lsa63 lsc63 sl lra63 lrc63 rl lka63 lkc63 klq63 lua63 luc63 ul kl fr bad ki _ hlq63 hmq63 hok hfl hbl hgk hbn) rfl ?_))))
            rintro _ w64 ⟨oa64, oc64, rfl, hro64, hE64⟩
            replace hB := below_ext hB hE64 hsz
            replace hb1 := hb1.ext hE64
            replace hty_b1 := hty_b1.ext hE64
            replace hb2 := hb2.ext hE64
            replace hty_b2 := hty_b2.ext hE64
            replace hcd := own_ext hcd hE64
            replace hb39 := hb39.ext hE64
            replace hty_b39 := hty_b39.ext hE64
            replace heo := own_ext heo hE64
            replace hsz := Nat.le_trans hsz hE64.size
            refine l_q (q_move (v := .tuple _) rfl rfl) (l_q (q_extract (vs := [_, _]) (v := .slice _ _ _) rfl rfl rfl) (l_q (q_extract (vs := [_, _]) (v := .int _ _) rfl rfl rfl) (l_q (qas rfl rfl) (l_q (qai rfl rfl) (l_nil (r_forget [(2, .slice _ _ _), (6, .int _ _), (7, .pointer _), (15, .int _ _), (16, .int _ _), (17, .int _ _), (18, .int _ _), (19, .pointer _), (24, .slice _ _ _), (25, .int _ _)] ⟨rfl, rfl, rfl, rfl, rfl, rfl, rfl, rfl, rfl, rfl, trivial⟩ (fun e65 => (r_seq (r_seq (r_region' (l_q (qmi rfl rfl) (l_q (q_neq rfl rfl rfl) (l_nil ?_)))))))))))))
            have hk66 : (!decide (0 = 0)) = false := by decide
            refine r_cond_f ((congrArg Value.bool hk66 : Value.bool _ = _)) (r_skip (r_seq (r_seq (r_region' (l_q (qms rfl rfl) (l_q (q_len rfl Tryz.underlying31 rfl rfl) (l_q (q_eql rfl rfl rfl) (l_nil (r_cond rfl (fun hc67 => ?_) (fun hc67 => ?_))))))))))
            ·
             replace hc67 := dt hc67
             refine r_seq (r_region' (l_q (q_fieldAddr (o' := 2) rfl fld43_2 rfl) (l_q (q_load Tryz.isAgg31 rfl ((hb39.has (o := 2) rfl)) rfl) (l_q (qmi rfl rfl) ?_))))
             obtain ⟨b68, o68, ha68, hh68⟩ := (Row.of_owns heo).at1 fr ((E).getD fr 0) (getD_some (by omega))
             refine l_q (q_indexAddr1 Tryz.underlying31 Tryz.sizeOf3 rfl ha68 rfl (by omega) rfl) (l_q (q_load Tryz.isAgg3 rfl (hh68) rfl) (l_q (q_eql rfl rfl rfl) (l_q (qmb rfl rfl) ?_)))
             have hk69 : (decide (((E).getD fr 0) = (-1))) = true := by rw [hEg, seeF, if_neg hbn, hrs_none (by omega)]; rfl
             refine l_part 160 rfl (fun _ => ?_) (fun hx => absurd (hk69.symm.trans hx) (by decide))
             refine l_o (o_call Tryz.call9 rfl (overheard_ret _) rfl ?_)
             rintro _ w70 ⟨rfl, hE70⟩
             replace hB := below_ext hB hE70 hsz
             replace hb1 := hb1.ext hE70
             replace hty_b1 := hty_b1.ext hE70
             replace hb2 := hb2.ext hE70
             replace hty_b2 := hty_b2.ext hE70
             replace hcd := own_ext hcd hE70
             replace hb39 := hb39.ext hE70
             replace hty_b39 := hty_b39.ext hE70
             replace heo := own_ext heo hE70
             replace hro64 := hro64.ext hE70
             replace hsz := Nat.le_trans hsz hE70.size
             refine l_q (q_pick_t (v := .bool _) rfl rfl rfl) (l_q (qab rfl rfl) (l_nil (r_forget [(14, .bool _)] ⟨rfl, trivial⟩ (fun e71 => (r_ret_ (vs := [.bool _]) rfl Tryz.func3 rfl (.nil _) ⟨rfl, trivial⟩ ?_)))))
             exact ⟨rfl, Ext.of_below hB⟩
            ·
             replace hc67 := df hc67
             refine r_skip (r_seq ?_)
             have hq24 := Int.emod_nonneg wn (show ((hrsF (fun q => canF sl rl kl ul fr bad ki q) ul.length).length : Int) ≠ 0 by omega)
             have hq24b := Int.emod_lt_of_pos wn (show (0 : Int) < (hrsF (fun q => canF sl rl kl ul fr bad ki q) ul.length).length by omega)
             refine r_region' (l_q (qms rfl rfl) (l_q (qmi rfl rfl) (l_q (q_toInt Tryz.underlying5 Tryz.underlying3 rfl (by omega) rfl) (l_q (qms rfl rfl) (l_q (q_len rfl Tryz.underlying31 rfl rfl) (l_q (q_rem rfl rfl (by omega) rfl) ?_))))))
             obtain ⟨b72, o72, ha72, hh72⟩ := hro64.at1 (wn % ((hrsF (fun q => canF sl rl kl ul fr bad ki q) ul.length).length : Int)).toNat (((hrsF (fun q => canF sl rl kl ul fr bad ki q) ul.length)).getD (wn % ((hrsF (fun q => canF sl rl kl ul fr bad ki q) ul.length).length : Int)).toNat 0) (getD_some (by omega))
             refine l_q (q_indexAddr1 Tryz.underlying31 Tryz.sizeOf3 rfl ha72 rfl (by omega) rfl) (l_q (q_load Tryz.isAgg3 rfl (hh72) rfl) (l_q (qai rfl rfl) (l_nil (r_forget [(2, .slice _ _ _), (7, .pointer _), (15, .int _ _), (16, .int _ _), (17, .int _ _), (18, .int _ _), (19, .pointer _), (26, .int _ _)] ⟨rfl, rfl, rfl, rfl, rfl, rfl, rfl, rfl, trivial⟩ (fun e73 => (r_seq ?_))))))
             obtain ⟨hq, hqe, hql, hqc⟩ : ∃ q : Nat, ((hrsF (fun q => canF sl rl kl ul fr bad ki q) ul.length)).getD (wn % ((hrsF (fun q => canF sl rl kl ul fr bad ki q) ul.length).length : Int)).toNat 0 = (q : Int) ∧ q < ul.length ∧ canF sl rl kl ul fr bad ki q = true := hrs_mem.1 (show ((hrsF (fun q => canF sl rl kl ul fr bad ki q) ul.length)).getD (wn % ((hrsF (fun q => canF sl rl kl ul fr bad ki q) ul.length).length : Int)).toNat 0 ∈ (hrsF (fun q => canF sl rl kl ul fr bad ki q) ul.length) from getD_lt (by omega))
             refine r_forget [(2, .slice _ _ _), (7, .pointer _), (15, .int _ _), (16, .int _ _), (17, .int _ _), (18, .int _ _), (19, .pointer _), (26, vint (hq : Int))] ⟨rfl, rfl, rfl, rfl, rfl, rfl, rfl, vint_eq hqe, trivial⟩ (fun e74 => ?_)
             obtain ⟨q0, hf1, hf2⟩ := hrs_first (p := fun q => canF sl rl kl ul fr bad ki q) hql hqc
             have hse1 : E.getD ((fr : Int)).toNat 0 ≠ -1 := by rw [Int.toNat_natCast, hEg, seeF, if_neg hbn, hf1]; omega
             have hse2 : E.getD ((fr : Int)).toNat 0 ≤ (hq : Int) := by rw [Int.toNat_natCast, hEg, seeF, if_neg hbn, hf1]; omega
             have hW25 : w.heap.size ≤ w64.heap.size := hsz
             have hsl25 := fun g hg => (heo.lt g hg).2
             refine r_region' (l_q (qmi rfl rfl) (l_q (qmi rfl rfl) ?_))
             have hbl_b1 := hb1.lt
             have hbl_b2 := hb2.lt
             have hbl_b39 := hb39.lt
             refine l_o (o_buildSlice (el := 3) (cs := []) Tryz.underlying31 el3 (by decide) (by kernel_rfl) rfl (by decide) rfl ?_)
             intro b75 w75 hzl75 hzr75 _ hb75 hE75 ho75
             have hne_b1_b75 : b1 ≠ b75 := by have := hb1.lt; omega
             have hne_b2_b75 : b2 ≠ b75 := by have := hb2.lt; omega
             have hne_b39_b75 : b39 ≠ b75 := by have := hb39.lt; omega
             have hbs_b75 : w.heap.size ≤ b75 := Nat.le_trans hsz hzl75
             replace hB := below_ext hB hE75 hsz
             replace hb1 := hb1.ext hE75
             replace hty_b1 := hty_b1.ext hE75
             replace hb2 := hb2.ext hE75
             replace hty_b2 := hty_b2.ext hE75
             replace hcd := own_ext hcd hE75
             replace hb39 := hb39.ext hE75
             replace hty_b39 := hty_b39.ext hE75
             replace heo := own_ext heo hE75
             replace hsz := Nat.le_trans hsz hE75.size
             replace ho75 := own_mono ho75 (show w64.heap.size ≤ _ by omega)
             refine l_q (qms rfl rfl) ?_
             have hbl_b1 := hb1.lt
             have hbl_b2 := hb2.lt
             have hbl_b39 := hb39.lt
             refine l_o (o_append_at (f := vint) [] tx Tryz.underlying31 el3 rfl rfl ho75 rfl (hx.below hB) (by omega) (fun _ => rfl) (by (try simp only [List.length_append, List.length_cons, List.length_nil]); omega) (by omega) rfl ?_)
             intro ta76 tc76 w76 hz76 ho76 hG76 hqq76
             replace hB := below_own hB hG76 ho75 (by omega) hsz
             replace hsz := Nat.le_trans hsz hG76.size
             replace hb1 := hb1.step hG76 (own_ty_ne ho75 hty_b1 (by decide))
             replace hb2 := hb2.step hG76 (own_ty_ne ho75 hty_b2 (by decide))
             replace hcd := own_kept hcd ho75 (by decide) hG76
             replace hb39 := hb39.step hG76 (own_ty_ne ho75 hty_b39 (by decide))
             replace heo := own_keepB heo (fun g hg => hG76.block g (heo.lt g hg).2 (fun he => by have h1 := hsl25 g hg; have h2 : g = b75 := Option.some.inj he; omega))
             replace hty_b1 := TyAt.own hty_b1 ho75 hG76 (by decide)
             replace hty_b2 := TyAt.own hty_b2 ho75 hG76 (by decide)
             replace hty_b39 := TyAt.own hty_b39 ho75 hG76 (by decide)
             refine l_q (q_build (v := .agg ⟨[vint (hq : Int), vint (fr : Int), .slice ta76 tx.length tc76]⟩) (fun w => by kernel_rfl) rfl) ?_
             have hbl_b1 := hb1.lt
             have hbl_b2 := hb2.lt
             have hbl_b39 := hb39.lt
             refine l_o (o_buildSlice (el := 55) (cs := [vint (hq : Int), vint (fr : Int), .slice ta76 tx.length tc76]) Tryz.underlying40 el55 (by decide) (by kernel_rfl) rfl (by decide) rfl ?_)
             intro b77 w77 hzl77 hzr77 _ hb77 hE77 ho77
             have hne_b1_b77 : b1 ≠ b77 := by have := hb1.lt; omega
             have hne_b2_b77 : b2 ≠ b77 := by have := hb2.lt; omega
             have hne_b39_b77 : b39 ≠ b77 := by have := hb39.lt; omega
             have hbs_b77 : w.heap.size ≤ b77 := Nat.le_trans hsz hzl77
             replace hB := below_ext hB hE77 hsz
             replace hb1 := hb1.ext hE77
             replace hty_b1 := hty_b1.ext hE77
             replace hb2 := hb2.ext hE77
             replace hty_b2 := hty_b2.ext hE77
             replace hcd := own_ext hcd hE77
             replace hb39 := hb39.ext hE77
             replace hty_b39 := hty_b39.ext hE77
             replace heo := own_ext heo hE77
             replace ho76 := own_ext ho76 hE77
             replace hsz := Nat.le_trans hsz hE77.size
             replace ho77 := own_mono ho77 (show w64.heap.size ≤ _ by omega)
             refine l_q (q_fieldAddr (o' := 3) rfl fld43_3 rfl) (l_o (o_storet (vs := [.slice (some ⟨b77, 0, none⟩) 1 1]) (cs' := [.slice ca c.length cc2, vint 0, .slice ea E.length ec, .slice (some ⟨b77, 0, none⟩) 1 1, .slice none 0 0]) Tryz.sizeOf40 rfl rfl rfl rfl hb39 (Nat.le_of_ble_eq_true rfl) rfl rfl ?_))
             intro w78 hz78 hb39 hT78 hG78
             replace hB := below_upd hB hG78 hsz (by omega)
             replace hsz : w.heap.size ≤ w78.heap.size := by rw [hz78]; exact hsz
             replace hb1 := hb1.upd hG78 (by omega)
             replace hty_b1 := hty_b1.upd hG78 (by omega)
             replace hb2 := hb2.upd hG78 (by omega)
             replace hty_b2 := hty_b2.upd hG78 (by omega)
             replace hcd := own_ty_upd hcd hty_b39 hG78 (by decide)
             replace heo := own_ty_upd heo hty_b39 hG78 (by decide)
             replace ho76 := own_ty_upd ho76 hty_b39 hG78 (by decide)
             replace ho77 := own_ty_upd ho77 hty_b39 hG78 (by decide)
             replace hty_b39 := hT78 _ hty_b39
             refine l_nil (r_seq ?_)
             have htop : faultM (lg c 0 E [(⟨(hq : Int), (fr : Int), ta76, tc76, tx⟩ : SN)] []) = 0 := top_ok hf0 (by rw [hEe]; exact sees_ok hu12) (by omega) (by dsimp only; omega) (by dsimp only; omega) (by dsimp only; omega) hit
             have htbig : LgBig c 0 E [(⟨(hq : Int), (fr : Int), ta76, tc76, tx⟩ : SN)] [] := ⟨⟨hcn, hcl⟩, by omega, by omega, ⟨by simp, fun y hy => by rw [List.mem_singleton.1 hy]; exact hxn⟩, by simp, by simp⟩
             refine r_region' (l_q (q_load_agg (n := 4) Tryz.isAgg27 Tryz.sizeOf27 rfl ((hb1.cells' (cs' := [_, _, _, _]) 0 4 rfl)) rfl rfl) (l_o (o_call Tryz.call12 rfl (land1_ret sa sc sl ra rc rl ka kc kl ua uc ul _ (hla.below hB) hlb) rfl ?_)))
             rintro _ w79 ⟨lsa79, lsc79, lra79, lrc79, lka79, lkc79, klq79, lua79, luc79, rfl, hlq79, hmq79, hE79⟩
             replace hB := below_ext hB hE79 hsz
             replace hb1 := hb1.ext hE79
             replace hty_b1 := hty_b1.ext hE79
             replace hb2 := hb2.ext hE79
             replace hty_b2 := hty_b2.ext hE79
             replace hcd := own_ext hcd hE79
             replace hb39 := hb39.ext hE79
             replace hty_b39 := hty_b39.ext hE79
             replace heo := own_ext heo hE79
             replace ho76 := own_ext ho76 hE79
             replace ho77 := own_ext ho77 hE79
             replace hsz := Nat.le_trans hsz hE79.size
             refine l_q (qmi rfl rfl) (l_q (qmi rfl rfl) (l_q (qmi rfl rfl) (l_o (o_call Tryz.call13 rfl (Earliest2_ret lsa79 lsc79 sl lra79 lrc79 rl lka79 lkc79 klq79 lua79 luc79 ul kl fr hq ki _ hlq79 hmq79 hok hfl hql hgk) rfl ?_))))
             rintro _ w80 ⟨oa80, oc80, T, rfl, hro80, hTl, hTq, hE80⟩
             replace hB := below_ext hB hE80 hsz
             replace hb1 := hb1.ext hE80
             replace hty_b1 := hty_b1.ext hE80
             replace hb2 := hb2.ext hE80
             replace hty_b2 := hty_b2.ext hE80
             replace hcd := own_ext hcd hE80
             replace hb39 := hb39.ext hE80
             replace hty_b39 := hty_b39.ext hE80
             replace heo := own_ext heo hE80
             replace ho76 := own_ext ho76 hE80
             replace ho77 := own_ext ho77 hE80
             replace hsz := Nat.le_trans hsz hE80.size
             have hTb : T.getD bad 0 = (hq : Int) + 1 := hTq bad hbl (fun h => hbn h.symm) hqc
             refine l_q (q_move (v := .tuple _) rfl rfl) (l_q (q_extract (vs := [_, _]) (v := .slice _ _ _) rfl rfl rfl) (l_q (q_extract (vs := [_, _]) (v := .int _ _) rfl rfl rfl) (l_q (qas rfl rfl) (l_q (qai rfl rfl) (l_nil (r_forget [(2, .slice _ _ _), (15, .int _ _), (17, .int _ _), (19, .pointer _), (26, .int _ _), (27, .slice _ _ _), (28, .int _ _)] ⟨rfl, rfl, rfl, rfl, rfl, rfl, rfl, trivial⟩ (fun e81 => (r_seq (r_seq (r_region' (l_q (qmi rfl rfl) (l_q (q_neq rfl rfl rfl) (l_q (qmb rfl rfl) ?_)))))))))))))
             have hk82 : (!decide (0 = 0)) = false := by decide
             refine l_part 190 rfl (fun hx => absurd (hk82.symm.trans hx) (by decide)) (fun _ => (l_q (qms rfl rfl) (l_q (q_len rfl Tryz.underlying31 rfl rfl) (l_q (qmi rfl rfl) (l_q (q_neq rfl rfl rfl) (l_q (q_pick_f (v := .bool _) rfl rfl rfl) (l_q (qmb rfl rfl) ?_)))))))
             have hk83 : (!decide ((T.length : Int) = (sl.length : Int))) = false := by rw [hTl]; simp
             refine l_part 196 rfl (fun hx => absurd (hk83.symm.trans hx) (by decide)) (fun _ => (l_q (qms rfl rfl) (l_q (qmi rfl rfl) ?_)))
             obtain ⟨b84, o84, ha84, hh84⟩ := hro80.at1 bad ((T).getD bad 0) (getD_some (by omega))
             refine l_q (q_indexAddr1 Tryz.underlying31 Tryz.sizeOf3 rfl ha84 rfl (by omega) rfl) (l_q (q_load Tryz.isAgg3 rfl (hh84) rfl) (l_q (qmi rfl rfl) (l_q (q_add rfl rfl (by omega) rfl) (l_q (q_neq rfl rfl rfl) (l_q (q_pick_f (v := .bool _) rfl rfl rfl) (l_nil (r_forget [(2, .slice _ _ _), (17, .int _ _), (19, .pointer _), (26, .int _ _), (27, .slice _ _ _), (204, .bool _)] ⟨rfl, rfl, rfl, rfl, rfl, rfl, trivial⟩ (fun e85 => ?_))))))))
             have hk86 : (!decide (((T).getD bad 0) = ((hq : Int) + 1))) = false := by rw [hTb]; simp
             refine r_cond_f ((congrArg Value.bool hk86 : Value.bool _ = _)) (r_skip (r_seq (r_region' (l_q (q_load_agg (n := 5) Tryz.isAgg43 Tryz.sizeOf43 rfl ((hb39.cells' (cs' := [_, _, _, _, _]) 0 5 rfl)) rfl rfl) (l_q (qmi rfl rfl) (l_o (o_call Tryz.call14 rfl ((by have h := mHeard_ret ca cc2 c 0 ea ec E (some ⟨b77, 0, none⟩) 1 [(⟨(hq : Int), (fr : Int), ta76, tc76, tx⟩ : SN)] none 0 [] (hq : Int) _ ⟨(Row.of_owns hcd), (Row.of_owns heo), (Row.of_owns ho77), (fun p hp => by rw [List.mem_singleton.1 hp]; exact (Row.of_owns ho76)), Row.nil _ _ _ _⟩ htbig; rw [show heardM (lg c 0 E [(⟨(hq : Int), (fr : Int), ta76, tc76, tx⟩ : SN)] []) (hq : Int) = ([], 0) from top_before htop (by omega) rfl] at h; exact h)) rfl ?_)))))))
             rintro _ w87 ⟨da87, dc87, D1, rfl, hrd87, hrs87, hDx1, hE87⟩
             replace hB := below_ext hB hE87 hsz
             replace hb1 := hb1.ext hE87
             replace hty_b1 := hty_b1.ext hE87
             replace hb2 := hb2.ext hE87
             replace hty_b2 := hty_b2.ext hE87
             replace hcd := own_ext hcd hE87
             replace hb39 := hb39.ext hE87
             replace hty_b39 := hty_b39.ext hE87
             replace heo := own_ext heo hE87
             replace ho76 := own_ext ho76 hE87
             replace ho77 := own_ext ho77 hE87
             replace hro80 := hro80.ext hE87
             replace hsz := Nat.le_trans hsz hE87.size
             have hD10 : D1.length = 0 := by have h := congrArg List.length hDx1; simpa using h
             refine l_q (q_move (v := .tuple _) rfl rfl) (l_q (q_extract (vs := [_, _]) (v := .slice _ _ _) rfl rfl rfl) (l_q (q_extract (vs := [_, _]) (v := .int _ _) rfl rfl rfl) (l_q (qas rfl rfl) (l_q (qai rfl rfl) (l_nil (r_seq (r_draw ext_refl' ext_trans' [0, 1, 2, 3, 4, 5, 6, 7, 8, 9, 10] [5] 14 (by kernel_rfl) (by kernel_rfl) ?_)))))))
             intro w88 _ hE88
             replace hB := below_ext hB hE88 hsz
             replace hb1 := hb1.ext hE88
             replace hty_b1 := hty_b1.ext hE88
             replace hb2 := hb2.ext hE88
             replace hty_b2 := hty_b2.ext hE88
             replace hcd := own_ext hcd hE88
             replace hb39 := hb39.ext hE88
             replace hty_b39 := hty_b39.ext hE88
             replace heo := own_ext heo hE88
             replace ho76 := own_ext ho76 hE88
             replace ho77 := own_ext ho77 hE88
             replace hro80 := hro80.ext hE88
             replace hrd87 := hrd87.ext hE88
             replace hrs87 := hrs87.ext hE88
             replace hsz := Nat.le_trans hsz hE88.size
             refine m_q rfl rfl (fun w' hC' => q_load_agg (n := 5) Tryz.isAgg43 Tryz.sizeOf43 rfl (((hb39.cells' (cs' := [_, _, _, _, _]) 0 5 rfl).ext hC')) rfl rfl) (m_q rfl rfl (fun w' hC' => qms rfl rfl) (m_q rfl rfl (fun w' hC' => qmi rfl rfl) ?_))
             obtain ⟨b89, o89, ha89, hh89⟩ := hro80.at1 bad ((T).getD bad 0) (getD_some (by omega))
             refine m_q rfl rfl (fun w' hC' => q_indexAddr1 Tryz.underlying31 Tryz.sizeOf3 rfl ha89 rfl (by omega) rfl) (m_q rfl rfl (fun w' hC' => q_load Tryz.isAgg3 rfl ((hh89.ext hC')) rfl) (m_o rfl rfl (o_call Tryz.call14 rfl ((by have h := mHeard_ret ca cc2 c 0 ea ec E (some ⟨b77, 0, none⟩) 1 [(⟨(hq : Int), (fr : Int), ta76, tc76, tx⟩ : SN)] none 0 [] ((T).getD bad 0) _ ⟨(Row.of_owns hcd), (Row.of_owns heo), (Row.of_owns ho77), (fun p hp => by rw [List.mem_singleton.1 hp]; exact (Row.of_owns ho76)), Row.nil _ _ _ _⟩ htbig; rw [show heardM (lg c 0 E [(⟨(hq : Int), (fr : Int), ta76, tc76, tx⟩ : SN)] []) ((T).getD bad 0) = (textsL (lg c 0 E [(⟨(hq : Int), (fr : Int), ta76, tc76, tx⟩ : SN)] []) ((T).getD bad 0), 0) from top_after htop (by omega)] at h; exact h)) rfl ?_)))
             rintro _ w90 ⟨da90, dc90, D2, rfl, hrd90, hrs90, hDx2, hE90⟩
             refine ⟨hE90, ?_⟩
             replace hB := below_ext hB hE90 hsz
             replace hb1 := hb1.ext hE90
             replace hty_b1 := hty_b1.ext hE90
             replace hb2 := hb2.ext hE90
             replace hty_b2 := hty_b2.ext hE90
             replace hcd := own_ext hcd hE90
             replace hb39 := hb39.ext hE90
             replace hty_b39 := hty_b39.ext hE90
             replace heo := own_ext heo hE90
             replace ho76 := own_ext ho76 hE90
             replace ho77 := own_ext ho77 hE90
             replace hro80 := hro80.ext hE90
             replace hrd87 := hrd87.ext hE90
             replace hrs87 := hrs87.ext hE90
             replace hsz := Nat.le_trans hsz hE90.size
             have hDn := top_len (x := (⟨(hq : Int), (fr : Int), ta76, tc76, tx⟩ : SN)) (show tx.length ≤ 5 by omega) hDx2
             have hmem : ∀ s ∈ D2, s.xs.length ≤ 5 := fun s hs => by
               have h := isub_len ((top_mem (c := c) (x := (⟨(hq : Int), (fr : Int), ta76, tc76, tx⟩ : SN)) (b := (T).getD bad 0) (show (hq : Int) < _ by omega) hse1 hse2).1 (by have h : s.xs ∈ D2.map (·.xs) := List.mem_map.2 ⟨s, hs, rfl⟩; rw [hDx2] at h; exact h))
               exact Nat.le_trans h (show tx.length ≤ 5 by omega)
             refine m_q rfl rfl (fun w' hC' => q_move (v := .tuple _) rfl rfl) (m_q rfl rfl (fun w' hC' => q_extract (vs := [_, _]) (v := .slice _ _ _) rfl rfl rfl) (m_q rfl rfl (fun w' hC' => q_extract (vs := [_, _]) (v := .int _ _) rfl rfl rfl) (m_q rfl rfl (fun w' hC' => qas rfl rfl) (m_q rfl rfl (fun w' hC' => qai rfl rfl) (m_nil (r_forget [(2, .slice _ _ _), (29, .slice _ _ _), (30, .int _ _), (31, .slice _ _ _), (32, .int _ _)] ⟨rfl, rfl, rfl, rfl, rfl, trivial⟩ (fun e91 => (r_seq (r_seq (r_region' (l_q (qmi rfl rfl) (l_q (q_neq rfl rfl rfl) (l_q (qmb rfl rfl) ?_)))))))))))))
             have hk92 : (!decide (0 = 0)) = false := by decide
             refine l_part 222 rfl (fun hx => absurd (hk92.symm.trans hx) (by decide)) (fun _ => (l_q (qmi rfl rfl) (l_q (q_neq rfl rfl rfl) (l_q (q_pick_f (v := .bool _) rfl rfl rfl) (l_q (qmb rfl rfl) ?_)))))
             have hk93 : (!decide (0 = 0)) = false := by decide
             refine l_part 226 rfl (fun hx => absurd (hk93.symm.trans hx) (by decide)) (fun _ => (l_q (qms rfl rfl) (l_q (q_len rfl Tryz.underlying56 rfl rfl) (l_q (q_neq rfl rfl rfl) (l_q (q_pick_f (v := .bool _) rfl rfl rfl) (l_nil (r_forget [(2, .slice _ _ _), (31, .slice _ _ _), (230, .bool _)] ⟨rfl, rfl, rfl, trivial⟩ (fun e94 => ?_))))))))
             have hk95 : (!decide ((D1.length : Int) = 0)) = false := by rw [hD10]; rfl
             refine r_cond_f ((congrArg Value.bool hk95 : Value.bool _ = _)) (r_skip (r_seq (r_region' (l_q (qab rfl rfl) (l_q (qab rfl rfl) (l_nil (r_seq (r_seq (r_region' (l_q (qai rfl rfl) (l_nil (r_block ?_))))))))))))
             refine r_rounds (α := Nat × Bool × Bool) (fun ⟨mm, bw, bf⟩ e wl => Knows e [(2, .slice xa tx.length xc), (31, .slice da90 D2.length dc90), (33, .bool bw), (34, .bool bf), (35, vint (mm : Int))] ∧ (mm ≤ D2.length) ∧ (bw = (D2.take mm).any (fun s => decide (s.xs = tx))) ∧ (bf = (D2.take mm).any (fun s => decide (s.xs = tx.take 1))) ∧ (Blk wl b1 [.slice sa sl.length sc, .slice ra rl.length rc, .slice ka kl.length kc, .slice ua ul.length uc]) ∧ (TyAt wl b1 27) ∧ (Blk wl b2 [.slice a c.length cc]) ∧ (TyAt wl b2 30) ∧ (wl.ownsRow w.heap.size 9 1 (.slice ca c.length cc2) c.length (c.map vstr)) ∧ (Blk wl b39 [.slice ca c.length cc2, vint 0, .slice ea E.length ec, .slice (some ⟨b77, 0, none⟩) 1 1, .slice none 0 0]) ∧ (TyAt wl b39 43) ∧ (wl.ownsRow w.heap.size 3 1 (.slice ea E.length ec) E.length (E.map vint)) ∧ (wl.ownsRow w64.heap.size 3 1 (.slice ta76 tx.length tc76) tx.length (tx.map vint)) ∧ (wl.ownsRow w64.heap.size 55 3 (.slice (some ⟨b77, 0, none⟩) 1 1) 1 [vint (hq : Int), vint (fr : Int), .slice ta76 tx.length tc76]) ∧ (Row wl oa80 T.length oc80 1 (T.map vint)) ∧ (Row wl da87 D1.length dc87 1 (D1.map SV.enc)) ∧ (RowsI wl D1) ∧ (Row wl da90 D2.length dc90 1 (D2.map SV.enc)) ∧ (RowsI wl D2) ∧ (w.heap.size ≤ wl.heap.size) ∧ (Below w.heap.size w wl)) (fun ⟨mm, bw, bf⟩ => D2.length - mm) (0, false, false) ?_ ?_
             ·
              exact ⟨⟨rfl, rfl, rfl, rfl, rfl, trivial⟩, (Nat.zero_le _), rfl, rfl, hb1, hty_b1, hb2, hty_b2, hcd, hb39, hty_b39, heo, ho76, ho77, hro80, hrd87, hrs87, hrd90, hrs90, hsz, hB⟩
             ·
              rintro ⟨mm, bw, bf⟩ el96 wl96 ⟨hkn, hmm, hbw, hbf, hb1, hty_b1, hb2, hty_b2, hcd, hb39, hty_b39, heo, ho76, ho77, hro80, hrd87, hrs87, hrd90, hrs90, hsz, hB⟩ ih96
              obtain ⟨e96, rfl⟩ := knows_env hkn
              refine r_seq (r_seq (r_region' (l_q (qmi rfl rfl) (l_q (qms rfl rfl) (l_q (q_len rfl Tryz.underlying56 rfl rfl) (l_q (q_lss rfl rfl rfl) (l_nil (r_cond rfl (fun hc97 => ?_) (fun hc97 => ?_)))))))))
              ·
               replace hc97 := dt hc97
               have hmD : mm < D2.length := by omega
               have hmx := hmem _ (getD_lt (d := sv0) hmD)
               refine r_skip (r_seq (r_block (r_seq (r_region' (l_q (qmb rfl rfl) (l_q (qmb rfl rfl) (l_part 238 rfl (fun hc98 => ?_) (fun hc98 => ?_))))))))
               ·
                have g238 := hc98
                refine l_q (q_skip rfl) (l_q (q_skip rfl) (l_q (q_skip rfl) (l_q (q_skip rfl) (l_q (q_skip rfl) (l_q (q_skip rfl) (l_q (q_pick_t (v := .bool _) rfl rfl rfl) (l_q (qab rfl rfl) (l_nil (r_forget [(2, .slice _ _ _), (31, .slice _ _ _), (33, .bool _), (34, .bool _), (35, .int _ _)] ⟨rfl, rfl, rfl, rfl, rfl, trivial⟩ (fun e99 => (r_draw ext_refl' ext_trans' [0, 1, 2, 3, 4, 5, 6, 7, 8, 9, 10] [8] 14 (by kernel_rfl) (by kernel_rfl) ?_)))))))))))
                intro w100 _ hE100
                replace hB := below_ext hB hE100 hsz
                replace hb1 := hb1.ext hE100
                replace hty_b1 := hty_b1.ext hE100
                replace hb2 := hb2.ext hE100
                replace hty_b2 := hty_b2.ext hE100
                replace hcd := own_ext hcd hE100
                replace hb39 := hb39.ext hE100
                replace hty_b39 := hty_b39.ext hE100
                replace heo := own_ext heo hE100
                replace ho76 := own_ext ho76 hE100
                replace ho77 := own_ext ho77 hE100
                replace hro80 := hro80.ext hE100
                replace hrd87 := hrd87.ext hE100
                replace hrs87 := hrs87.ext hE100
                replace hrd90 := hrd90.ext hE100
                replace hrs90 := hrs90.ext hE100
                replace hsz := Nat.le_trans hsz hE100.size
                refine m_q rfl rfl (fun w' hC' => qmb rfl rfl) (m_q rfl rfl (fun w' hC' => qmb rfl rfl) (m_part 247 rfl (fun hc101 => ?_) (fun hc101 => ?_)))
                ·
                 have g247 := hc101
                 refine m_q rfl rfl (fun w' hC' => q_skip rfl) (m_q rfl rfl (fun w' hC' => q_skip rfl) (m_q rfl rfl (fun w' hC' => q_skip rfl) (m_q rfl rfl (fun w' hC' => q_skip rfl) (m_q rfl rfl (fun w' hC' => q_skip rfl) (m_q rfl rfl (fun w' hC' => q_skip rfl) (m_o rfl rfl ((q_skip rfl).eff ⟨Ext.refl _, ?_⟩)))))))
                 refine m_q rfl rfl (fun w' hC' => q_pick_t (v := .bool _) rfl rfl rfl) (m_q rfl rfl (fun w' hC' => qab rfl rfl) (m_nil (r_forget [(2, .slice _ _ _), (31, .slice _ _ _), (33, .bool _), (34, .bool _), (35, .int _ _)] ⟨rfl, rfl, rfl, rfl, rfl, trivial⟩ (fun e102 => (r_inBlock (r_region' (l_q (qmi rfl rfl) (l_q (q_add rfl rfl (by omega) rfl) (l_q (qai rfl rfl) (l_nil ?_))))))))))
                 exact ih96 (mm + 1, true, true) _ _ ⟨⟨rfl, rfl, rfl, rfl, (vint_eq (by omega)), trivial⟩, (by omega), (by rw [any_snoc (d := sv0) hmD, ← hbw, g238]; rfl), (by rw [any_snoc (d := sv0) hmD, ← hbf, g247]; rfl), hb1, hty_b1, hb2, hty_b2, hcd, hb39, hty_b39, heo, ho76, ho77, hro80, hrd87, hrs87, hrd90, hrs90, hsz, hB⟩ (by first | omega | (dsimp only; omega))
                ·
                 have g247 := hc101
                 refine m_q rfl rfl (fun w' hC' => qms rfl rfl) (m_q rfl rfl (fun w' hC' => qmi rfl rfl) ?_)
                 have hr104 := hrs90.get (i := mm) (by omega)
                 obtain ⟨b103, o103, ha103, hh103⟩ := hrd90.at1 mm ((D2).getD mm sv0) (getD_some (by omega))
                 refine m_q rfl rfl (fun w' hC' => q_indexAddr1 Tryz.underlying56 Tryz.sizeOf31 rfl ha103 rfl (by omega) rfl) (m_q rfl rfl (fun w' hC' => q_load Tryz.isAgg31 rfl ((hh103.ext hC')) rfl) (m_q rfl rfl (fun w' hC' => qms rfl rfl) ?_))
                 obtain ⟨a105, c105, hr105, hv105⟩ := slice_ex_hi (f := vint) (xs := tx) (1) (hx.below hB) (by omega)
                 refine m_q rfl rfl (fun w' hC' => (q_slice (lo := 0) (hi := 1) Tryz.underlying31 Tryz.sizeOf3 rfl rfl rfl (by omega) (hx.below hB).2.1 rfl).cast hv105) (m_o rfl rfl (o_call Tryz.call15 rfl (same_ret _ _ (((D2).getD mm sv0).xs) _ _ ((tx).take 1) _ hr104 (by have := hmx; omega) hr105 (by first | omega | (rw [List.length_take]; omega))) rfl ?_))
                 rintro _ w106 ⟨rfl, hE106⟩
                 refine ⟨hE106, ?_⟩
                 replace hB := below_ext hB hE106 hsz
                 replace hb1 := hb1.ext hE106
                 replace hty_b1 := hty_b1.ext hE106
                 replace hb2 := hb2.ext hE106
                 replace hty_b2 := hty_b2.ext hE106
                 replace hcd := own_ext hcd hE106
                 replace hb39 := hb39.ext hE106
                 replace hty_b39 := hty_b39.ext hE106
                 replace heo := own_ext heo hE106
                 replace ho76 := own_ext ho76 hE106
                 replace ho77 := own_ext ho77 hE106
                 replace hro80 := hro80.ext hE106
                 replace hrd87 := hrd87.ext hE106
                 replace hrs87 := hrs87.ext hE106
                 replace hrd90 := hrd90.ext hE106
                 replace hrs90 := hrs90.ext hE106
                 replace hsz := Nat.le_trans hsz hE106.size
                 refine m_q rfl rfl (fun w' hC' => q_pick_f (v := .bool _) rfl rfl rfl) (m_q rfl rfl (fun w' hC' => qab rfl rfl) (m_nil (r_forget [(2, .slice _ _ _), (31, .slice _ _ _), (33, .bool _), (34, .bool _), (35, .int _ _)] ⟨rfl, rfl, rfl, rfl, rfl, trivial⟩ (fun e107 => (r_inBlock (r_region' (l_q (qmi rfl rfl) (l_q (q_add rfl rfl (by omega) rfl) (l_q (qai rfl rfl) (l_nil ?_))))))))))
                 exact ih96 (mm + 1, true, decide ((((D2).getD mm sv0).xs) = ((tx).take 1))) _ _ ⟨⟨rfl, rfl, rfl, rfl, (vint_eq (by omega)), trivial⟩, (by omega), (by rw [any_snoc (d := sv0) hmD, ← hbw, g238]; rfl), (by rw [any_snoc (d := sv0) hmD, ← hbf, g247]; rfl), hb1, hty_b1, hb2, hty_b2, hcd, hb39, hty_b39, heo, ho76, ho77, hro80, hrd87, hrs87, hrd90, hrs90, hsz, hB⟩ (by first | omega | (dsimp only; omega))
               ·
                have g238 := hc98
                refine l_q (qms rfl rfl) (l_q (qmi rfl rfl) ?_)
                have hr109 := hrs90.get (i := mm) (by omega)
                obtain ⟨b108, o108, ha108, hh108⟩ := hrd90.at1 mm ((D2).getD mm sv0) (getD_some (by omega))
                refine l_q (q_indexAddr1 Tryz.underlying56 Tryz.sizeOf31 rfl ha108 rfl (by omega) rfl) (l_q (q_load Tryz.isAgg31 rfl (hh108) rfl) (l_q (qms rfl rfl) (l_o (o_call Tryz.call15 rfl (same_ret _ _ (((D2).getD mm sv0).xs) _ _ tx _ hr109 (by have := hmx; omega) (hx.below hB) (by first | omega | (rw [List.length_take]; omega))) rfl ?_))))
                rintro _ w110 ⟨rfl, hE110⟩
                replace hB := below_ext hB hE110 hsz
                replace hb1 := hb1.ext hE110
                replace hty_b1 := hty_b1.ext hE110
                replace hb2 := hb2.ext hE110
                replace hty_b2 := hty_b2.ext hE110
                replace hcd := own_ext hcd hE110
                replace hb39 := hb39.ext hE110
                replace hty_b39 := hty_b39.ext hE110
                replace heo := own_ext heo hE110
                replace ho76 := own_ext ho76 hE110
                replace ho77 := own_ext ho77 hE110
                replace hro80 := hro80.ext hE110
                replace hrd87 := hrd87.ext hE110
                replace hrs87 := hrs87.ext hE110
                replace hrd90 := hrd90.ext hE110
                replace hrs90 := hrs90.ext hE110
                replace hsz := Nat.le_trans hsz hE110.size
                refine l_q (q_pick_f (v := .bool _) rfl rfl rfl) (l_q (qab rfl rfl) (l_nil (r_forget [(2, .slice _ _ _), (31, .slice _ _ _), (33, .bool _), (34, .bool _), (35, .int _ _)] ⟨rfl, rfl, rfl, rfl, rfl, trivial⟩ (fun e111 => (r_draw ext_refl' ext_trans' [0, 1, 2, 3, 4, 5, 6, 7, 8, 9, 10] [8] 14 (by kernel_rfl) (by kernel_rfl) ?_)))))
                intro w112 _ hE112
                replace hB := below_ext hB hE112 hsz
                replace hb1 := hb1.ext hE112
                replace hty_b1 := hty_b1.ext hE112
                replace hb2 := hb2.ext hE112
                replace hty_b2 := hty_b2.ext hE112
                replace hcd := own_ext hcd hE112
                replace hb39 := hb39.ext hE112
                replace hty_b39 := hty_b39.ext hE112
                replace heo := own_ext heo hE112
                replace ho76 := own_ext ho76 hE112
                replace ho77 := own_ext ho77 hE112
                replace hro80 := hro80.ext hE112
                replace hrd87 := hrd87.ext hE112
                replace hrs87 := hrs87.ext hE112
                replace hrd90 := hrd90.ext hE112
                replace hrs90 := hrs90.ext hE112
                replace hsz := Nat.le_trans hsz hE112.size
                refine m_q rfl rfl (fun w' hC' => qmb rfl rfl) (m_q rfl rfl (fun w' hC' => qmb rfl rfl) (m_part 247 rfl (fun hc113 => ?_) (fun hc113 => ?_)))
                ·
                 have g247 := hc113
                 refine m_q rfl rfl (fun w' hC' => q_skip rfl) (m_q rfl rfl (fun w' hC' => q_skip rfl) (m_q rfl rfl (fun w' hC' => q_skip rfl) (m_q rfl rfl (fun w' hC' => q_skip rfl) (m_q rfl rfl (fun w' hC' => q_skip rfl) (m_q rfl rfl (fun w' hC' => q_skip rfl) (m_o rfl rfl ((q_skip rfl).eff ⟨Ext.refl _, ?_⟩)))))))
                 refine m_q rfl rfl (fun w' hC' => q_pick_t (v := .bool _) rfl rfl rfl) (m_q rfl rfl (fun w' hC' => qab rfl rfl) (m_nil (r_forget [(2, .slice _ _ _), (31, .slice _ _ _), (33, .bool _), (34, .bool _), (35, .int _ _)] ⟨rfl, rfl, rfl, rfl, rfl, trivial⟩ (fun e114 => (r_inBlock (r_region' (l_q (qmi rfl rfl) (l_q (q_add rfl rfl (by omega) rfl) (l_q (qai rfl rfl) (l_nil ?_))))))))))
                 exact ih96 (mm + 1, decide ((((D2).getD mm sv0).xs) = tx), true) _ _ ⟨⟨rfl, rfl, rfl, rfl, (vint_eq (by omega)), trivial⟩, (by omega), (by rw [any_snoc (d := sv0) hmD, ← hbw, g238]; rfl), (by rw [any_snoc (d := sv0) hmD, ← hbf, g247]; rfl), hb1, hty_b1, hb2, hty_b2, hcd, hb39, hty_b39, heo, ho76, ho77, hro80, hrd87, hrs87, hrd90, hrs90, hsz, hB⟩ (by first | omega | (dsimp only; omega))
                ·
                 have g247 := hc113
                 refine m_q rfl rfl (fun w' hC' => qms rfl rfl) (m_q rfl rfl (fun w' hC' => qmi rfl rfl) ?_)
                 have hr116 := hrs90.get (i := mm) (by omega)
                 obtain ⟨b115, o115, ha115, hh115⟩ := hrd90.at1 mm ((D2).getD mm sv0) (getD_some (by omega))
                 refine m_q rfl rfl (fun w' hC' => q_indexAddr1 Tryz.underlying56 Tryz.sizeOf31 rfl ha115 rfl (by omega) rfl) (m_q rfl rfl (fun w' hC' => q_load Tryz.isAgg31 rfl ((hh115.ext hC')) rfl) (m_q rfl rfl (fun w' hC' => qms rfl rfl) ?_))
                 obtain ⟨a117, c117, hr117, hv117⟩ := slice_ex_hi (f := vint) (xs := tx) (1) (hx.below hB) (by omega)
                 refine m_q rfl rfl (fun w' hC' => (q_slice (lo := 0) (hi := 1) Tryz.underlying31 Tryz.sizeOf3 rfl rfl rfl (by omega) (hx.below hB).2.1 rfl).cast hv117) (m_o rfl rfl (o_call Tryz.call15 rfl (same_ret _ _ (((D2).getD mm sv0).xs) _ _ ((tx).take 1) _ hr116 (by have := hmx; omega) hr117 (by first | omega | (rw [List.length_take]; omega))) rfl ?_))
                 rintro _ w118 ⟨rfl, hE118⟩
                 refine ⟨hE118, ?_⟩
                 replace hB := below_ext hB hE118 hsz
                 replace hb1 := hb1.ext hE118
                 replace hty_b1 := hty_b1.ext hE118
                 replace hb2 := hb2.ext hE118
                 replace hty_b2 := hty_b2.ext hE118
                 replace hcd := own_ext hcd hE118
                 replace hb39 := hb39.ext hE118
                 replace hty_b39 := hty_b39.ext hE118
                 replace heo := own_ext heo hE118
                 replace ho76 := own_ext ho76 hE118
                 replace ho77 := own_ext ho77 hE118
                 replace hro80 := hro80.ext hE118
                 replace hrd87 := hrd87.ext hE118
                 replace hrs87 := hrs87.ext hE118
                 replace hrd90 := hrd90.ext hE118
                 replace hrs90 := hrs90.ext hE118
                 replace hsz := Nat.le_trans hsz hE118.size
                 refine m_q rfl rfl (fun w' hC' => q_pick_f (v := .bool _) rfl rfl rfl) (m_q rfl rfl (fun w' hC' => qab rfl rfl) (m_nil (r_forget [(2, .slice _ _ _), (31, .slice _ _ _), (33, .bool _), (34, .bool _), (35, .int _ _)] ⟨rfl, rfl, rfl, rfl, rfl, trivial⟩ (fun e119 => (r_inBlock (r_region' (l_q (qmi rfl rfl) (l_q (q_add rfl rfl (by omega) rfl) (l_q (qai rfl rfl) (l_nil ?_))))))))))
                 exact ih96 (mm + 1, decide ((((D2).getD mm sv0).xs) = tx), decide ((((D2).getD mm sv0).xs) = ((tx).take 1))) _ _ ⟨⟨rfl, rfl, rfl, rfl, (vint_eq (by omega)), trivial⟩, (by omega), (by rw [any_snoc (d := sv0) hmD, ← hbw, g238]; rfl), (by rw [any_snoc (d := sv0) hmD, ← hbf, g247]; rfl), hb1, hty_b1, hb2, hty_b2, hcd, hb39, hty_b39, heo, ho76, ho77, hro80, hrd87, hrs87, hrd90, hrs90, hsz, hB⟩ (by first | omega | (dsimp only; omega))
              ·
               replace hc97 := dlt hc97
               refine r_exit rfl (r_seq ?_)
               have hme : mm = D2.length := by omega
               have hbT : bw = true := by rw [hbw, hme, List.take_length]; exact any_in hDx2 ((top_mem (c := c) (x := (⟨(hq : Int), (fr : Int), ta76, tc76, tx⟩ : SN)) (b := T.getD bad 0) (show (hq : Int) < _ by omega) hse1 hse2).2 (sub_refl (show 0 < tx.length by omega)))
               have hbF : bf = true := by rw [hbf, hme, List.take_length]; exact any_in hDx2 ((top_mem (c := c) (x := (⟨(hq : Int), (fr : Int), ta76, tc76, tx⟩ : SN)) (b := T.getD bad 0) (show (hq : Int) < _ by omega) hse1 hse2).2 (sub_one (show 0 < tx.length by omega)))
               refine r_region' (l_q (qmb rfl rfl) (l_q (qmb rfl rfl) ?_))
               have hk120 : bw = true := hbT
               refine l_part 257 rfl (fun _ => ?_) (fun hx => absurd (hk120.symm.trans hx) (by decide))
               refine l_q (qmb rfl rfl) (l_q (q_pick_t (v := .bool _) rfl rfl rfl) (l_q (qmb rfl rfl) ?_))
               have hk121 : bf = true := hbF
               refine l_part 260 rfl (fun _ => ?_) (fun hx => absurd (hk121.symm.trans hx) (by decide))
               refine l_o (o_call Tryz.call9 rfl (overheard_ret _) rfl ?_)
               rintro _ w122 ⟨rfl, hE122⟩
               replace hB := below_ext hB hE122 hsz
               replace hcd := own_ext hcd hE122
               replace hsz := Nat.le_trans hsz hE122.size
               refine l_q (q_pick_t (v := .bool _) rfl rfl rfl) (l_q (qab rfl rfl) (l_nil (r_forget [(14, .bool _)] ⟨rfl, trivial⟩ (fun e123 => (r_ret_ (vs := [.bool _]) rfl Tryz.func3 rfl (.nil _) ⟨rfl, trivial⟩ ?_)))))
               exact ⟨rfl, Ext.of_below hB⟩
end Go.Proofs.YtbikicakdkbcgacGreat
