/- Contracts. -/
import Derived.Test.YtbikicakdkbcgabGreatA8
set_option linter.unusedVariables false
set_option linter.unusedSimpArgs false
namespace Go.Proofs.YtbikicakdkbcgabGreat
open Go Go.RowKit Go.Gv Go.Fl


set_option maxHeartbeats 2000000 in
theorem topManned_ret (cap can s0 s1 : Int) (sa : Option Addr) (sc : Nat) (ns : List NT) (ka : Option Addr) (kc : Nat) (cs : List Int) (va : Option Addr) (vc : Nat) (vs : List Int) (na : Option Addr) (nc : Nat) (nd : List Int) (pa : Option Addr) (pc : Nat) (pl : List PV) (ca : Option Addr) (cc : Nat) (L : List SV) (wa : Option Addr) (wc : Nat) (ws : List Int) (wh : Int) (w : World) (hns : Row w sa ns.length sc 5 (ns.flatMap NT.enc)) (hsl : ns.length ≤ 2097152) (hcs : Row w ka cs.length kc 1 (cs.map vint)) (hcl : cs.length ≤ 2097152) (hpo : PoAt w na nc nd pa pc pl ca cc L) (hbg : PoBig nd pl L) (hwd : Row w wa ws.length wc 1 (ws.map (Value.int .u16))) (hwn : ws.length ≤ 2097152) (hwr : ∀ x ∈ ws, 0 ≤ x ∧ x ≤ 65535) (hwh : 0 ≤ wh ∧ wh ≤ 255) : Ret Tryz.prog 3 [.agg ⟨[vint cap, vint can, vint s0, vint s1, .slice sa ns.length sc]⟩, .agg ⟨[.slice ka cs.length kc, .slice va vs.length vc]⟩, .agg ⟨[.slice na nd.length nc, .slice pa pl.length pc, .slice ca L.length cc]⟩, .slice wa ws.length wc, .int .u8 wh] w (fun v w' => v = .bool true ∧ Ext w w') := by
 obtain ⟨hnl, hpll, hLl, hLs, hPb⟩ := id hbg
 have hB := Below.refl w.heap.size w
 have hsz : w.heap.size ≤ w.heap.size := Nat.le_refl _
 refine ret_of_runs (args := [_, _, _, _, _]) Tryz.func3 rfl (Nat.le_of_ble_eq_true rfl) (by kernel_rfl) (r_seq (r_region' (l_o (o_boxt rfl rfl rfl ?_))))
 intro b1 w1 hzl1 hzr1 _ hb1 hty_b1 hE1
 have hbs_b1 : w.heap.size ≤ b1 := Nat.le_trans hsz hzl1
 replace hB := below_ext hB hE1 hsz
 replace hsz := Nat.le_trans hsz hE1.size
 refine l_o (o_boxt rfl rfl rfl ?_)
 intro b2 w2 hzl2 hzr2 _ hb2 hty_b2 hE2
 have hne_b1_b2 : b1 ≠ b2 := by have := hb1.lt; omega
 have hbs_b2 : w.heap.size ≤ b2 := Nat.le_trans hsz hzl2
 replace hB := below_ext hB hE2 hsz
 replace hb1 := hb1.ext hE2
 replace hty_b1 := hty_b1.ext hE2
 replace hsz := Nat.le_trans hsz hE2.size
 refine l_o (o_boxt rfl rfl rfl ?_)
 intro b3 w3 hzl3 hzr3 _ hb3 hty_b3 hE3
 have hne_b1_b3 : b1 ≠ b3 := by have := hb1.lt; omega
 have hne_b2_b3 : b2 ≠ b3 := by have := hb2.lt; omega
 have hbs_b3 : w.heap.size ≤ b3 := Nat.le_trans hsz hzl3
 replace hB := below_ext hB hE3 hsz
 replace hb1 := hb1.ext hE3
 replace hty_b1 := hty_b1.ext hE3
 replace hb2 := hb2.ext hE3
 replace hty_b2 := hty_b2.ext hE3
 replace hsz := Nat.le_trans hsz hE3.size
 refine l_q (qab rfl rfl) (l_nil (r_seq (r_seq (r_region' (l_q (q_load_agg (n := 5) Tryz.isAgg26 Tryz.sizeOf26 rfl ((hb1.cells' (cs' := [_, _, _, _, _]) 0 5 rfl)) rfl rfl) (l_q (q_load_agg (n := 2) Tryz.isAgg29 Tryz.sizeOf29 rfl ((hb2.cells' (cs' := [_, _]) 0 2 rfl)) rfl rfl) (l_o (o_call Tryz.call4 rfl (thin8_ret cap can s0 s1 sa sc ns ka kc cs va vc vs _) rfl ?_))))))))
 rintro _ w4 ⟨rfl, hE4⟩
 replace hB := below_ext hB hE4 hsz
 replace hb1 := hb1.ext hE4
 replace hty_b1 := hty_b1.ext hE4
 replace hb2 := hb2.ext hE4
 replace hty_b2 := hty_b2.ext hE4
 replace hb3 := hb3.ext hE4
 replace hty_b3 := hty_b3.ext hE4
 replace hsz := Nat.le_trans hsz hE4.size
 refine l_q (q_not rfl rfl) (l_q (qmb rfl rfl) (l_part 34 rfl (fun hc5 => ?_) (fun hc5 => ?_)))
 ·
  replace hc5 := df (nt hc5)
  refine l_q (q_skip rfl) (l_q (q_skip rfl) (l_q (q_skip rfl) (l_q (q_pick_t (v := .bool _) rfl rfl rfl) (l_q (qmb rfl rfl) (l_q (q_skip rfl) (l_q (q_skip rfl) (l_q (q_skip rfl) (l_q (q_skip rfl) (l_q (q_pick_t (v := .bool _) rfl rfl rfl) (l_q (qmb rfl rfl) (l_q (q_skip rfl) (l_q (q_skip rfl) (l_q (q_skip rfl) (l_q (q_skip rfl) (l_q (q_skip rfl) (l_q (q_pick_t (v := .bool _) rfl rfl rfl) (l_q (qmb rfl rfl) (l_q (q_skip rfl) (l_q (q_skip rfl) (l_q (q_skip rfl) (l_q (q_pick_t (v := .bool _) rfl rfl rfl) (l_nil (r_forget [(3, .slice _ _ _), (4, .int _ _), (5, .pointer _), (6, .pointer _), (7, .pointer _), (56, .bool _)] ⟨rfl, rfl, rfl, rfl, rfl, rfl, trivial⟩ (fun e6 => (r_cond_t rfl (r_seq (r_region' (l_o (o_call Tryz.call8 rfl (manned_ret _) rfl ?_)))))))))))))))))))))))))))))
  rintro _ w7 ⟨rfl, hE7⟩
  replace hB := below_ext hB hE7 hsz
  replace hb1 := hb1.ext hE7
  replace hty_b1 := hty_b1.ext hE7
  replace hb2 := hb2.ext hE7
  replace hty_b2 := hty_b2.ext hE7
  replace hb3 := hb3.ext hE7
  replace hty_b3 := hty_b3.ext hE7
  replace hsz := Nat.le_trans hsz hE7.size
  refine l_q (qab rfl rfl) (l_nil (r_ret_ (vs := [.bool _]) rfl Tryz.func3 rfl (.nil _) ⟨rfl, trivial⟩ ?_))
  exact ⟨rfl, Ext.of_below hB⟩
 ·
  replace hc5 := dt (nf hc5)
  refine l_q (q_load_agg (n := 5) Tryz.isAgg26 Tryz.sizeOf26 rfl ((hb1.cells' (cs' := [_, _, _, _, _]) 0 5 rfl)) rfl rfl) (l_o (o_call Tryz.call5 rfl (fault8_ret cap can s0 s1 sa sc ns _ (hns.below hB) hsl) rfl ?_))
  rintro _ w8 ⟨rfl, hE8⟩
  replace hB := below_ext hB hE8 hsz
  replace hb1 := hb1.ext hE8
  replace hty_b1 := hty_b1.ext hE8
  replace hb2 := hb2.ext hE8
  replace hty_b2 := hty_b2.ext hE8
  replace hb3 := hb3.ext hE8
  replace hty_b3 := hty_b3.ext hE8
  replace hsz := Nat.le_trans hsz hE8.size
  refine l_q (q_neq rfl rfl rfl) (l_q (q_pick_f (v := .bool _) rfl rfl rfl) (l_q (qmb rfl rfl) (l_part 39 rfl (fun hc9 => ?_) (fun hc9 => ?_))))
  ·
   replace hc9 := df (nt hc9)
   refine l_q (q_skip rfl) (l_q (q_skip rfl) (l_q (q_skip rfl) (l_q (q_skip rfl) (l_q (q_pick_t (v := .bool _) rfl rfl rfl) (l_q (qmb rfl rfl) (l_q (q_skip rfl) (l_q (q_skip rfl) (l_q (q_skip rfl) (l_q (q_skip rfl) (l_q (q_skip rfl) (l_q (q_pick_t (v := .bool _) rfl rfl rfl) (l_q (qmb rfl rfl) (l_q (q_skip rfl) (l_q (q_skip rfl) (l_q (q_skip rfl) (l_q (q_pick_t (v := .bool _) rfl rfl rfl) (l_nil (r_forget [(3, .slice _ _ _), (4, .int _ _), (5, .pointer _), (6, .pointer _), (7, .pointer _), (56, .bool _)] ⟨rfl, rfl, rfl, rfl, rfl, rfl, trivial⟩ (fun e10 => (r_cond_t rfl (r_seq (r_region' (l_o (o_call Tryz.call8 rfl (manned_ret _) rfl ?_))))))))))))))))))))))))
   rintro _ w11 ⟨rfl, hE11⟩
   replace hB := below_ext hB hE11 hsz
   replace hb1 := hb1.ext hE11
   replace hty_b1 := hty_b1.ext hE11
   replace hb2 := hb2.ext hE11
   replace hty_b2 := hty_b2.ext hE11
   replace hb3 := hb3.ext hE11
   replace hty_b3 := hty_b3.ext hE11
   replace hsz := Nat.le_trans hsz hE11.size
   refine l_q (qab rfl rfl) (l_nil (r_ret_ (vs := [.bool _]) rfl Tryz.func3 rfl (.nil _) ⟨rfl, trivial⟩ ?_))
   exact ⟨rfl, Ext.of_below hB⟩
  ·
   replace hc9 := dt (nf hc9)
   have hos := ok_faultS hc9
   have hn6 := hos.six
   have hnp := hos.pos
   refine l_q (q_fieldAddr (o' := 4) rfl fld26_3 rfl) (l_q (q_load Tryz.isAgg24 rfl ((hb1.has (o := 4) rfl)) rfl) (l_q (q_len rfl Tryz.underlying24 rfl rfl) (l_q (q_gtr rfl rfl rfl) (l_q (q_pick_f (v := .bool _) rfl rfl rfl) (l_q (qmb rfl rfl) (l_part 45 rfl (fun hc12 => ?_) (fun hc12 => ?_)))))))
   ·
    replace hc12 := dt hc12
    refine l_q (q_skip rfl) (l_q (q_skip rfl) (l_q (q_skip rfl) (l_q (q_skip rfl) (l_q (q_skip rfl) (l_q (q_pick_t (v := .bool _) rfl rfl rfl) (l_q (qmb rfl rfl) (l_q (q_skip rfl) (l_q (q_skip rfl) (l_q (q_skip rfl) (l_q (q_pick_t (v := .bool _) rfl rfl rfl) (l_nil (r_forget [(3, .slice _ _ _), (4, .int _ _), (5, .pointer _), (6, .pointer _), (7, .pointer _), (56, .bool _)] ⟨rfl, rfl, rfl, rfl, rfl, rfl, trivial⟩ (fun e13 => (r_cond_t rfl (r_seq (r_region' (l_o (o_call Tryz.call8 rfl (manned_ret _) rfl ?_))))))))))))))))))
    rintro _ w14 ⟨rfl, hE14⟩
    replace hB := below_ext hB hE14 hsz
    replace hb1 := hb1.ext hE14
    replace hty_b1 := hty_b1.ext hE14
    replace hb2 := hb2.ext hE14
    replace hty_b2 := hty_b2.ext hE14
    replace hb3 := hb3.ext hE14
    replace hty_b3 := hty_b3.ext hE14
    replace hsz := Nat.le_trans hsz hE14.size
    refine l_q (qab rfl rfl) (l_nil (r_ret_ (vs := [.bool _]) rfl Tryz.func3 rfl (.nil _) ⟨rfl, trivial⟩ ?_))
    exact ⟨rfl, Ext.of_below hB⟩
   ·
    replace hc12 := dlt hc12
    refine l_q (q_load_agg (n := 5) Tryz.isAgg26 Tryz.sizeOf26 rfl ((hb1.cells' (cs' := [_, _, _, _, _]) 0 5 rfl)) rfl rfl) (l_q (q_fieldAddr (o' := 0) rfl fld29_0 rfl) (l_q (q_load Tryz.isAgg27 rfl ((hb2.has (o := 0) rfl)) rfl) (l_o (o_call Tryz.call6 rfl (isCans_ret cap can s0 s1 sa sc ns ka kc cs _ (hns.below hB) hsl (hcs.below hB) hcl) rfl ?_))))
    rintro _ w15 ⟨rfl, hE15⟩
    replace hB := below_ext hB hE15 hsz
    replace hb1 := hb1.ext hE15
    replace hty_b1 := hty_b1.ext hE15
    replace hb2 := hb2.ext hE15
    replace hty_b2 := hty_b2.ext hE15
    replace hb3 := hb3.ext hE15
    replace hty_b3 := hty_b3.ext hE15
    replace hsz := Nat.le_trans hsz hE15.size
    refine l_q (q_not rfl rfl) (l_q (q_pick_f (v := .bool _) rfl rfl rfl) (l_q (qmb rfl rfl) (l_part 52 rfl (fun hc16 => ?_) (fun hc16 => ?_))))
    ·
     replace hc16 := df (nt hc16)
     refine l_q (q_skip rfl) (l_q (q_skip rfl) (l_q (q_skip rfl) (l_q (q_pick_t (v := .bool _) rfl rfl rfl) (l_nil (r_forget [(3, .slice _ _ _), (4, .int _ _), (5, .pointer _), (6, .pointer _), (7, .pointer _), (56, .bool _)] ⟨rfl, rfl, rfl, rfl, rfl, rfl, trivial⟩ (fun e17 => (r_cond_t rfl (r_seq (r_region' (l_o (o_call Tryz.call8 rfl (manned_ret _) rfl ?_)))))))))))
     rintro _ w18 ⟨rfl, hE18⟩
     replace hB := below_ext hB hE18 hsz
     replace hb1 := hb1.ext hE18
     replace hty_b1 := hty_b1.ext hE18
     replace hb2 := hb2.ext hE18
     replace hty_b2 := hty_b2.ext hE18
     replace hb3 := hb3.ext hE18
     replace hty_b3 := hty_b3.ext hE18
     replace hsz := Nat.le_trans hsz hE18.size
     refine l_q (qab rfl rfl) (l_nil (r_ret_ (vs := [.bool _]) rfl Tryz.func3 rfl (.nil _) ⟨rfl, trivial⟩ ?_))
     exact ⟨rfl, Ext.of_below hB⟩
    ·
     replace hc16 := dt (nf hc16)
     have hcn : CansP ns cs := hc16
     have hcn6 := hcn.1
     refine l_q (q_load_agg (n := 3) Tryz.isAgg33 Tryz.sizeOf33 rfl ((hb3.cells' (cs' := [_, _, _]) 0 3 rfl)) rfl rfl) (l_o (o_call Tryz.call7 rfl (thin_ret10 na nc nd pa pc pl ca cc L _ (hpo.below hB) hbg) rfl ?_))
     rintro _ w19 ⟨bb19, rfl, -, hE19⟩
     replace hB := below_ext hB hE19 hsz
     replace hb1 := hb1.ext hE19
     replace hty_b1 := hty_b1.ext hE19
     replace hb2 := hb2.ext hE19
     replace hty_b2 := hty_b2.ext hE19
     replace hb3 := hb3.ext hE19
     replace hty_b3 := hty_b3.ext hE19
     replace hsz := Nat.le_trans hsz hE19.size
     refine l_q (q_not rfl rfl) (l_q (q_pick_f (v := .bool _) rfl rfl rfl) (l_nil (r_forget [(3, .slice _ _ _), (4, .int _ _), (5, .pointer _), (6, .pointer _), (7, .pointer _), (56, .bool _)] ⟨rfl, rfl, rfl, rfl, rfl, rfl, trivial⟩ (fun e20 => (r_cond rfl (fun hc21 => ?_) (fun hc21 => ?_))))))
     ·
      replace hc21 := nt hc21
      refine r_seq (r_region' (l_o (o_call Tryz.call8 rfl (manned_ret _) rfl ?_)))
      rintro _ w22 ⟨rfl, hE22⟩
      replace hB := below_ext hB hE22 hsz
      replace hb1 := hb1.ext hE22
      replace hty_b1 := hty_b1.ext hE22
      replace hb2 := hb2.ext hE22
      replace hty_b2 := hty_b2.ext hE22
      replace hb3 := hb3.ext hE22
      replace hty_b3 := hty_b3.ext hE22
      replace hsz := Nat.le_trans hsz hE22.size
      refine l_q (qab rfl rfl) (l_nil (r_ret_ (vs := [.bool _]) rfl Tryz.func3 rfl (.nil _) ⟨rfl, trivial⟩ ?_))
      exact ⟨rfl, Ext.of_below hB⟩
     ·
      replace hc21 := nf hc21
      refine r_skip (r_seq (r_ifj (α := (Option Addr) × Nat × (List Int) × Int × Int) (fun ⟨ra, rc, X, lt, er⟩ e wl => Knows e [(3, .slice wa ws.length wc), (4, .int .u8 wh), (5, ptr b1 0), (6, ptr b2 0), (7, ptr b3 0), (11, .slice ra ((X).length) rc), (13, vint er)] ∧ (er = (if ch cap can s0 s1 ns cs 0 s0 < 524288 then 0 else 10)) ∧ (er = 0 → ∃ oil, LeastP cap can s0 s1 ns cs X oil lt ∧ X.length = ns.length ∧ lt = - ch cap can s0 s1 ns cs 0 s0) ∧ (Row wl ra ((X).length) rc 1 ((X).map vint)) ∧ (Blk wl b1 [vint cap, vint can, vint s0, vint s1, .slice sa ns.length sc]) ∧ (TyAt wl b1 26) ∧ (Blk wl b2 [.slice ka cs.length kc, .slice va vs.length vc]) ∧ (TyAt wl b2 29) ∧ (Blk wl b3 [.slice na nd.length nc, .slice pa pl.length pc, .slice ca L.length cc]) ∧ (TyAt wl b3 33) ∧ (w.heap.size ≤ wl.heap.size) ∧ (Below w.heap.size w wl)) ?_ ?_))
      ·
       rintro ⟨ra, rc, X, lt, er⟩ el23 wl23 ⟨hkn, heT, hpT, hX, hb1, hty_b1, hb2, hty_b2, hb3, hty_b3, hsz, hB⟩
       obtain ⟨e23, rfl⟩ := knows_env hkn
       refine r_seq (r_seq (r_region' (l_q (qmi rfl rfl) (l_q (q_neq rfl rfl rfl) (l_nil (r_cond rfl (fun hc24 => ?_) (fun hc24 => ?_)))))))
       ·
        replace hc24 := df (nt hc24)
        have g70 := hc24
        refine r_seq (r_region' (l_q (qmi rfl rfl) (l_q (q_eql rfl rfl rfl) (l_q (qmb rfl rfl) ?_))))
        have hk25 : (decide (er = 10)) = true := decide_eq_true (er_ten heT g70)
        refine l_part 73 rfl (fun _ => ?_) (fun hx => absurd (hk25.symm.trans hx) (by decide))
        refine l_o (o_call Tryz.call8 rfl (manned_ret _) rfl ?_)
        rintro _ w26 ⟨rfl, hE26⟩
        replace hB := below_ext hB hE26 hsz
        replace hb1 := hb1.ext hE26
        replace hty_b1 := hty_b1.ext hE26
        replace hb2 := hb2.ext hE26
        replace hty_b2 := hty_b2.ext hE26
        replace hb3 := hb3.ext hE26
        replace hty_b3 := hty_b3.ext hE26
        replace hX := hX.ext hE26
        replace hsz := Nat.le_trans hsz hE26.size
        refine l_q (q_pick_t (v := .bool _) rfl rfl rfl) (l_q (qab rfl rfl) (l_nil (r_forget [(10, .bool _)] ⟨rfl, trivial⟩ (fun e27 => (r_ret_ (vs := [.bool _]) rfl Tryz.func3 rfl (.nil _) ⟨rfl, trivial⟩ ?_)))))
        exact ⟨rfl, Ext.of_below hB⟩
       ·
        replace hc24 := dt (nf hc24)
        have her : er = 0 := by omega
        obtain ⟨oil, hlp, hXl, _⟩ := hpT her
        have hwp := hlp.wicks hXl
        refine r_skip (r_seq (r_seq ?_))
        have hBE := Below.refl wl23.heap.size wl23
        have hsz_hBE : w.heap.size ≤ wl23.heap.size := hsz
        have hlt_hBE_b1 := hb1.lt
        have hlt_hBE_b2 := hb2.lt
        have hlt_hBE_b3 := hb3.lt
        refine r_region' (l_q (q_load_agg (n := 5) Tryz.isAgg26 Tryz.sizeOf26 rfl (((hb1.ext (Ext.of_below hBE)).cells' (cs' := [_, _, _, _, _]) 0 5 rfl)) rfl rfl) (l_q (qms rfl rfl) (l_o (o_call Tryz.call11 rfl (isWicks_ret cap can s0 s1 sa sc ns ra rc X _ (hns.below hB) hsl (hX.ext (Ext.of_below hBE)) (by omega)) rfl ?_))))
        rintro _ w28 ⟨rfl, hE28⟩
        replace hB := below_ext hB hE28 hsz
        replace hBE := below_ext hBE hE28 hBE.size
        replace hsz := Nat.le_trans hsz hE28.size
        refine l_q (q_not rfl rfl) (l_nil ?_)
        have hk29 : (!(decide (WicksP ns X))) = false := by rw [decide_eq_true hwp]; rfl
        refine r_cond_f ((congrArg Value.bool hk29 : Value.bool _ = _)) (r_skip (r_seq (r_ifj (α := Nat × Nat) (fun ⟨bx, bz⟩ e wl => Knows e [(3, .slice wa ws.length wc), (4, .int .u8 wh), (5, ptr b1 0), (6, ptr b2 0), (11, .slice ra ((X).length) rc), (14, ptr bx 0), (15, ptr bz 0)] ∧ (w.heap.size ≤ bx) ∧ (w.heap.size ≤ bz) ∧ (wl23.heap.size ≤ bx) ∧ (wl23.heap.size ≤ bz) ∧ (bx ≠ bz) ∧ (Blk wl bx [.slice na nd.length nc, .slice pa pl.length pc, .slice ca L.length cc]) ∧ (Blk wl bz [.slice na nd.length nc, .slice pa pl.length pc, .slice ca L.length cc]) ∧ (TyAt wl bx 33) ∧ (TyAt wl bz 33) ∧ (Below wl23.heap.size wl23 wl) ∧ (w.heap.size ≤ wl.heap.size) ∧ (Below w.heap.size w wl)) ?_ ?_)))
        ·
         rintro ⟨bx, bz⟩ el30 wl30 ⟨hkn, hbs_bx, hbs_bz, hbF_bx, hbF_bz, hne_bx_bz, hbx, hbz, hty_bx, hty_bz, hBE, hsz, hB⟩
         obtain ⟨e30, rfl⟩ := knows_env hkn
         refine r_seq (r_region' (l_q (q_fieldAddr (o' := 0) rfl fld33_0 rfl) (l_o (o_storet (vs := [.slice none 0 0]) (cs' := [.slice none 0 0, .slice pa pl.length pc, .slice ca L.length cc]) Tryz.sizeOf27 rfl rfl rfl rfl hbx (Nat.le_of_ble_eq_true rfl) rfl rfl ?_))))
         intro w31 hz31 hbx hT31 hG31
         replace hB := below_upd hB hG31 hsz (by omega)
         replace hsz : w.heap.size ≤ w31.heap.size := by rw [hz31]; exact hsz
         replace hBE := below_upd hBE hG31 hBE.size (by omega)
         replace hbz := hbz.upd hG31 (by omega)
         replace hty_bz := hty_bz.upd hG31 (by omega)
         replace hty_bx := hT31 _ hty_bx
         refine l_q (q_fieldAddr (o' := 0) rfl fld33_0 rfl) (l_o (o_storet (vs := [.slice none 0 0]) (cs' := [.slice none 0 0, .slice pa pl.length pc, .slice ca L.length cc]) Tryz.sizeOf27 rfl rfl rfl rfl hbz (Nat.le_of_ble_eq_true rfl) rfl rfl ?_))
         intro w32 hz32 hbz hT32 hG32
         replace hB := below_upd hB hG32 hsz (by omega)
         replace hsz : w.heap.size ≤ w32.heap.size := by rw [hz32]; exact hsz
         replace hBE := below_upd hBE hG32 hBE.size (by omega)
         replace hbx := hbx.upd hG32 (by omega)
         replace hty_bx := hty_bx.upd hG32 (by omega)
         replace hty_bz := hT32 _ hty_bz
         refine l_nil (r_seq (r_seq (r_region' (l_q (qai rfl rfl) (l_nil (r_block ?_))))))
         refine r_rounds (α := Nat × (Option Addr) × Nat × (List Int) × (Option Addr) × Nat × (List Int)) (fun ⟨k, a1, c1, l1, a2, c2, l2⟩ e wl => Knows e [(3, .slice wa ws.length wc), (4, .int .u8 wh), (5, ptr b1 0), (6, ptr b2 0), (11, .slice ra ((X).length) rc), (14, ptr bx 0), (15, ptr bz 0), (16, vint (k : Int))] ∧ (k ≤ ns.length) ∧ (l1 = (X.take k).map (min 2)) ∧ (l2 = (ns.take k).map (fun n => min 2 n.le)) ∧ (TwoI wl wl23.heap.size 3 a1 c1 l1 a2 c2 l2) ∧ (Blk wl bx [.slice a1 ((l1).length) c1, .slice pa pl.length pc, .slice ca L.length cc]) ∧ (Blk wl bz [.slice a2 ((l2).length) c2, .slice pa pl.length pc, .slice ca L.length cc]) ∧ (Below wl23.heap.size wl23 wl) ∧ (TyAt wl bx 33) ∧ (TyAt wl bz 33) ∧ (w.heap.size ≤ wl.heap.size) ∧ (Below w.heap.size w wl)) (fun ⟨k, a1, c1, l1, a2, c2, l2⟩ => ns.length - k) ⟨0, none, 0, [], none, 0, []⟩ ?_ ?_
         ·
          exact ⟨⟨rfl, rfl, rfl, rfl, rfl, rfl, rfl, rfl, trivial⟩, (Nat.zero_le _), rfl, rfl, (TwoI.nil _ _ _), hbx, hbz, hBE, hty_bx, hty_bz, hsz, hB⟩
         ·
          rintro ⟨k, a1, c1, l1, a2, c2, l2⟩ el33 wl33 ⟨hkn, hkn2, hl1, hl2, hT, hbx, hbz, hBE, hty_bx, hty_bz, hsz, hB⟩ ih33
          obtain ⟨e33, rfl⟩ := knows_env hkn
          refine r_seq (r_seq (r_region' (l_q (qmi rfl rfl) (l_q (q_fieldAddr (o' := 4) rfl fld26_3 rfl) (l_q (q_load Tryz.isAgg24 rfl (((hb1.ext (Ext.of_below hBE)).has (o := 4) rfl)) rfl) (l_q (q_len rfl Tryz.underlying24 rfl rfl) (l_q (q_lss rfl rfl rfl) (l_nil (r_cond rfl (fun hc34 => ?_) (fun hc34 => ?_))))))))))
          ·
           replace hc34 := dt hc34
           have hkn : k < ns.length := by omega
           have hl1k : l1.length = k := by rw [hl1, List.length_map, List.length_take]; omega
           have hl2k : l2.length = k := by rw [hl2, List.length_map, List.length_take]; omega
           refine r_skip (r_seq (r_block ?_))
           refine r_draw3 (Cls := fun u1 u2 => Below wl23.heap.size u1 u2 ∧ (Blk u1 bx [.slice a1 ((l1).length) c1, .slice pa pl.length pc, .slice ca L.length cc] → Blk u2 bx [.slice a1 ((l1).length) c1, .slice pa pl.length pc, .slice ca L.length cc]) ∧ (Blk u1 bz [.slice a2 ((l2).length) c2, .slice pa pl.length pc, .slice ca L.length cc] → Blk u2 bz [.slice a2 ((l2).length) c2, .slice pa pl.length pc, .slice ca L.length cc])) (fun u => ⟨Below.refl _ u, (fun h => h), (fun h => h)⟩) (fun _ _ _ h1 h2 => ⟨h1.1.trans h2.1, (fun h => h2.2.1 (h1.2.1 h)), (fun h => h2.2.2 (h1.2.2 h))⟩) (.op 0 (.op 1 (.op 2 (.op 3 (.op 4 (.op 5 (.op 6 (.op 9 (.op 10 (.op 11 (.op 12 (.op 13 (.op 14 (.op 15 (.op 16 (.op 17 (.fork 18 (.op 7 (.op 8 (.op 20 (.op 19 (.op 21 (.op 22 (.op 23 (.done)))))))) (.op 7 (.fork 18 (.op 8 (.op 20 (.op 19 (.op 21 (.op 22 (.op 23 (.done))))))) (.op 8 (.op 20 (.op 18 (.op 19 (.op 21 (.op 22 (.op 23 (.done))))))))))))))))))))))))))) [7, 8, 18, 19, 21, 23, 1021, 1023] 40 (by kernel_rfl) (by kernel_rfl) ?_
           intro w35 _ hE35
           replace hB := below_ext hB hE35 hsz
           replace hBE := below_ext hBE hE35 hBE.size
           replace hbx := hbx.ext hE35
           replace hbz := hbz.ext hE35
           replace hty_bx := hty_bx.ext hE35
           replace hty_bz := hty_bz.ext hE35
           replace hT := hT.ext hE35
           replace hsz := Nat.le_trans hsz hE35.size
           refine m_q3 rfl rfl (fun w' hC' => q_fieldAddr (o' := 0) rfl fld33_0 rfl) (m_q3 rfl rfl (fun w' hC' => q_load Tryz.isAgg27 rfl (((hC'.2.1 hbx).has (o := 0) rfl)) rfl) (m_q3 rfl rfl (fun w' hC' => qms rfl rfl) (m_q3 rfl rfl (fun w' hC' => qmi rfl rfl) ?_)))
           obtain ⟨b36, o36, ha36, hh36⟩ := (hX.ext (Ext.of_below hBE)).at1 k ((X).getD k 0) (getD_some (by omega))
           refine m_q3 rfl rfl (fun w' hC' => q_indexAddr1 Tryz.underlying27 Tryz.sizeOf3 rfl ha36 rfl (by omega) rfl) (m_q3 rfl rfl (fun w' hC' => q_load Tryz.isAgg3 rfl ((at1_same (hX.ext (Ext.of_below (hBE.trans hC'.1))) (x := (X).getD k 0) (getD_some (by omega)) ha36)) rfl) (m_q3 rfl rfl (fun w' hC' => q_min rfl rfl rfl) (m_q3 rfl rfl (fun w' hC' => q_fieldAddr (o' := 0) rfl fld33_0 rfl) (m_q3 rfl rfl (fun w' hC' => q_load Tryz.isAgg27 rfl (((hC'.2.2 hbz).has (o := 0) rfl)) rfl) (m_q3 rfl rfl (fun w' hC' => q_fieldAddr (o' := 4) rfl fld26_3 rfl) (m_q3 rfl rfl (fun w' hC' => q_load Tryz.isAgg24 rfl (((hb1.ext (Ext.of_below (hBE.trans hC'.1))).has (o := 4) rfl)) rfl) (m_q3 rfl rfl (fun w' hC' => qmi rfl rfl) ?_)))))))
           obtain ⟨b37, o37, ha37, hh37⟩ := (hns.below hB).at (by decide) k (by omega)
           refine m_q3 rfl rfl (fun w' hC' => q_indexAddr Tryz.underlying24 Tryz.sizeOf49 rfl ha37 rfl (by omega) rfl) (m_q3 rfl rfl (fun w' hC' => q_fieldAddr (o' := 1) rfl fld49_1 rfl) (m_q3 rfl rfl (fun w' hC' => q_load Tryz.isAgg3 rfl (((cells_cast (wide_at NT.len nt0 _ _ (by omega)) (atN_same (hns.below (below_more hB hC'.1 hsz_hBE)) (by decide) (by omega) ha37)) 1 _ rfl)) rfl) (m_q3 rfl rfl (fun w' hC' => q_min rfl rfl rfl) (m_fork3 ?_ ?_))))
           ·
            have hTo109 := fun g hg => (hT.o1.lt g hg).2
            have hbl_b1 := (hb1.ext (Ext.of_below hBE)).lt
            have hbl_b2 := (hb2.ext (Ext.of_below hBE)).lt
            have hbl_b3 := (hb3.ext (Ext.of_below hBE)).lt
            have hbl_bx := hbx.lt
            have hbl_bz := hbz.lt
            have hszf38 := hBE.size
            refine m_o3 rfl rfl (o_buildSlice (el := 3) (cs := [vint (min 2 (((ns).getD k nt0).le))]) Tryz.underlying27 el3 (by decide) (by kernel_rfl) rfl (by decide) rfl ?_)
            intro b39 w39 hzl39 hzr39 _ hb39 hE39 ho39
            refine ⟨⟨below_ext_of hE39 hBE.size, (fun h => h.ext hE39), (fun h => h.ext hE39)⟩, ?_⟩
            have hne_b1_b39 : b1 ≠ b39 := by have := (hb1.ext (Ext.of_below hBE)).lt; omega
            have hne_b2_b39 : b2 ≠ b39 := by have := (hb2.ext (Ext.of_below hBE)).lt; omega
            have hne_b3_b39 : b3 ≠ b39 := by have := (hb3.ext (Ext.of_below hBE)).lt; omega
            have hne_bx_b39 : bx ≠ b39 := by have := hbx.lt; omega
            have hne_bz_b39 : bz ≠ b39 := by have := hbz.lt; omega
            have hbs_b39 : w.heap.size ≤ b39 := Nat.le_trans hsz hzl39
            replace hB := below_ext hB hE39 hsz
            replace hBE := below_ext hBE hE39 hBE.size
            replace hbx := hbx.ext hE39
            replace hbz := hbz.ext hE39
            replace hty_bx := hty_bx.ext hE39
            replace hty_bz := hty_bz.ext hE39
            replace hT := hT.ext hE39
            replace hsz := Nat.le_trans hsz hE39.size
            replace ho39 := own_mono ho39 (show wl23.heap.size ≤ _ by omega)
            have hbl_b1 := (hb1.ext (Ext.of_below hBE)).lt
            have hbl_b2 := (hb2.ext (Ext.of_below hBE)).lt
            have hbl_b3 := (hb3.ext (Ext.of_below hBE)).lt
            have hbl_bx := hbx.lt
            have hbl_bz := hbz.lt
            have hszf40 := hBE.size
            refine m_o3 rfl rfl (o_buildSlice (el := 3) (cs := [vint (min 2 ((X).getD k 0))]) Tryz.underlying27 el3 (by decide) (by kernel_rfl) rfl (by decide) rfl ?_)
            intro b41 w41 hzl41 hzr41 _ hb41 hE41 ho41
            refine ⟨⟨below_ext_of hE41 hBE.size, (fun h => h.ext hE41), (fun h => h.ext hE41)⟩, ?_⟩
            have hne_b1_b41 : b1 ≠ b41 := by have := (hb1.ext (Ext.of_below hBE)).lt; omega
            have hne_b2_b41 : b2 ≠ b41 := by have := (hb2.ext (Ext.of_below hBE)).lt; omega
            have hne_b3_b41 : b3 ≠ b41 := by have := (hb3.ext (Ext.of_below hBE)).lt; omega
            have hne_bx_b41 : bx ≠ b41 := by have := hbx.lt; omega
            have hne_bz_b41 : bz ≠ b41 := by have := hbz.lt; omega
            have hbs_b41 : w.heap.size ≤ b41 := Nat.le_trans hsz hzl41
            replace hB := below_ext hB hE41 hsz
            replace hBE := below_ext hBE hE41 hBE.size
            replace hbx := hbx.ext hE41
            replace hbz := hbz.ext hE41
            replace hty_bx := hty_bx.ext hE41
            replace hty_bz := hty_bz.ext hE41
            replace hT := hT.ext hE41
            replace ho39 := own_ext ho39 hE41
            replace hsz := Nat.le_trans hsz hE41.size
            replace ho41 := own_mono ho41 (show wl23.heap.size ≤ _ by omega)
            have hbl_b1 := (hb1.ext (Ext.of_below hBE)).lt
            have hbl_b2 := (hb2.ext (Ext.of_below hBE)).lt
            have hbl_b3 := (hb3.ext (Ext.of_below hBE)).lt
            have hbl_bx := hbx.lt
            have hbl_bz := hbz.lt
            have hszf42 := hBE.size
            refine m_o3 rfl rfl (o_append_at (f := vint) l1 ([min 2 ((X).getD k 0)]) Tryz.underlying27 el3 rfl rfl hT.o1 rfl (Row.of_owns ho41) (Nat.zero_lt_succ _) (fun _ => rfl) (by (try simp only [List.length_append, List.length_cons, List.length_nil]); omega) hBE.size rfl ?_)
            intro aq43 cq43 w43 hz43 ho43 hG43 hq43
            refine ⟨⟨below_own_of hG43 hT.o1 (Nat.le_refl _) hBE.size, (fun h => h.step hG43 (own_ty_ne hT.o1 hty_bx (by decide))), (fun h => h.step hG43 (own_ty_ne hT.o1 hty_bz (by decide)))⟩, ?_⟩
            replace hB := below_own hB hG43 hT.o1 (by omega) hsz
            replace hsz := Nat.le_trans hsz hG43.size
            replace hBE := below_own hBE hG43 hT.o1 (by first | exact Nat.le_refl _ | omega) hBE.size
            replace hbx := hbx.step hG43 (own_ty_ne hT.o1 hty_bx (by decide))
            replace hbz := hbz.step hG43 (own_ty_ne hT.o1 hty_bz (by decide))
            replace hty_bx := TyAt.own hty_bx hT.o1 hG43 (by decide)
            replace hty_bz := TyAt.own hty_bz hT.o1 hG43 (by decide)
            replace ho39 := own_keepB ho39 (fun g hg => hG43.block g (ho39.lt g hg).2 (fun he => by have h1 := hTo109 g he.symm; have h2 : b39 = g := Option.some.inj hg; omega))
            replace hT := hT.put1 ho43 hG43 hq43
            refine m_q3 rfl rfl (fun w' hC' => q_fieldAddr (o' := 0) rfl fld33_0 rfl) ?_
            have hbl_b1 := (hb1.ext (Ext.of_below hBE)).lt
            have hbl_b2 := (hb2.ext (Ext.of_below hBE)).lt
            have hbl_b3 := (hb3.ext (Ext.of_below hBE)).lt
            have hbl_bx := hbx.lt
            have hbl_bz := hbz.lt
            have hszf44 := hBE.size
            refine m_o3 rfl rfl (o_append_at (f := vint) l2 ([min 2 (((ns).getD k nt0).le)]) Tryz.underlying27 el3 rfl rfl hT.o2 rfl (Row.of_owns ho39) (Nat.zero_lt_succ _) (fun _ => rfl) (by (try simp only [List.length_append, List.length_cons, List.length_nil]); omega) hBE.size rfl ?_)
            intro aq45 cq45 w45 hz45 ho45 hG45 hq45
            refine ⟨⟨below_own_of hG45 hT.o2 (Nat.le_refl _) hBE.size, (fun h => h.step hG45 (own_ty_ne hT.o2 hty_bx (by decide))), (fun h => h.step hG45 (own_ty_ne hT.o2 hty_bz (by decide)))⟩, ?_⟩
            replace hB := below_own hB hG45 hT.o2 (by omega) hsz
            replace hsz := Nat.le_trans hsz hG45.size
            replace hBE := below_own hBE hG45 hT.o2 (by first | exact Nat.le_refl _ | omega) hBE.size
            replace hbx := hbx.step hG45 (own_ty_ne hT.o2 hty_bx (by decide))
            replace hbz := hbz.step hG45 (own_ty_ne hT.o2 hty_bz (by decide))
            replace hty_bx := TyAt.own hty_bx hT.o2 hG45 (by decide)
            replace hty_bz := TyAt.own hty_bz hT.o2 hG45 (by decide)
            replace hT := hT.put2 ho45 hG45 hq45
            refine m_last3 rfl rfl rfl (o_storet (vs := [.slice aq43 ((l1 ++ [min 2 ((X).getD k 0)]).length) cq43]) (cs' := [.slice aq43 ((l1 ++ [min 2 ((X).getD k 0)]).length) cq43, .slice pa pl.length pc, .slice ca L.length cc]) Tryz.sizeOf27 rfl rfl rfl rfl hbx (Nat.le_of_ble_eq_true rfl) rfl rfl ?_)
            intro w46 hz46 hbx hT46 hG46
            replace hB := below_upd hB hG46 hsz (by omega)
            replace hsz : w.heap.size ≤ w46.heap.size := by rw [hz46]; exact hsz
            replace hBE := below_upd hBE hG46 hBE.size (by omega)
            replace hbz := hbz.upd hG46 (by omega)
            replace hty_bz := hty_bz.upd hG46 (by omega)
            replace hT := TwoI.tyupd hT hty_bx hG46 (by decide)
            replace hty_bx := hT46 _ hty_bx
            refine m_q3 rfl rfl (fun w' hC' => q_fieldAddr (o' := 0) rfl fld33_0 rfl) (m_last3 rfl rfl rfl (o_storet (vs := [.slice aq45 ((l2 ++ [min 2 (((ns).getD k nt0).le)]).length) cq45]) (cs' := [.slice aq45 ((l2 ++ [min 2 (((ns).getD k nt0).le)]).length) cq45, .slice pa pl.length pc, .slice ca L.length cc]) Tryz.sizeOf27 rfl rfl rfl rfl hbz (Nat.le_of_ble_eq_true rfl) rfl rfl ?_))
            intro w47 hz47 hbz hT47 hG47
            replace hB := below_upd hB hG47 hsz (by omega)
            replace hsz : w.heap.size ≤ w47.heap.size := by rw [hz47]; exact hsz
            replace hBE := below_upd hBE hG47 hBE.size (by omega)
            replace hbx := hbx.upd hG47 (by omega)
            replace hty_bx := hty_bx.upd hG47 (by omega)
            replace hT := TwoI.tyupd hT hty_bz hG47 (by decide)
            replace hty_bz := hT47 _ hty_bz
            refine m_nil3 (r_forget [(3, .slice _ _ _), (4, .int _ _), (5, .pointer _), (6, .pointer _), (11, .slice _ _ _), (14, .pointer _), (15, .pointer _), (16, .int _ _)] ⟨rfl, rfl, rfl, rfl, rfl, rfl, rfl, rfl, trivial⟩ (fun e48 => (r_inBlock (r_region' (l_q (qmi rfl rfl) (l_q (q_add rfl rfl (by omega) rfl) (l_q (qai rfl rfl) (l_nil ?_))))))))
            exact ih33 ⟨k + 1, aq43, cq43, (l1 ++ [min 2 ((X).getD k 0)]), aq45, cq45, (l2 ++ [min 2 (((ns).getD k nt0).le)])⟩ _ _ ⟨⟨rfl, rfl, rfl, rfl, rfl, rfl, rfl, (vint_eq (by omega)), trivial⟩, (by omega), (min_snoc hl1 (by omega)), (mine_snoc hl2 hkn), hT, hbx, hbz, hBE, hty_bx, hty_bz, hsz, hB⟩ (by first | omega | (dsimp only; omega))
           ·
            have hbl_b1 := (hb1.ext (Ext.of_below hBE)).lt
            have hbl_b2 := (hb2.ext (Ext.of_below hBE)).lt
            have hbl_b3 := (hb3.ext (Ext.of_below hBE)).lt
            have hbl_bx := hbx.lt
            have hbl_bz := hbz.lt
            have hszf49 := hBE.size
            refine m_o3 rfl rfl (o_buildSlice (el := 3) (cs := [vint (min 2 ((X).getD k 0))]) Tryz.underlying27 el3 (by decide) (by kernel_rfl) rfl (by decide) rfl ?_)
            intro b50 w50 hzl50 hzr50 _ hb50 hE50 ho50
            refine ⟨⟨below_ext_of hE50 hBE.size, (fun h => h.ext hE50), (fun h => h.ext hE50)⟩, ?_⟩
            have hne_b1_b50 : b1 ≠ b50 := by have := (hb1.ext (Ext.of_below hBE)).lt; omega
            have hne_b2_b50 : b2 ≠ b50 := by have := (hb2.ext (Ext.of_below hBE)).lt; omega
            have hne_b3_b50 : b3 ≠ b50 := by have := (hb3.ext (Ext.of_below hBE)).lt; omega
            have hne_bx_b50 : bx ≠ b50 := by have := hbx.lt; omega
            have hne_bz_b50 : bz ≠ b50 := by have := hbz.lt; omega
            have hbs_b50 : w.heap.size ≤ b50 := Nat.le_trans hsz hzl50
            replace hB := below_ext hB hE50 hsz
            replace hBE := below_ext hBE hE50 hBE.size
            replace hbx := hbx.ext hE50
            replace hbz := hbz.ext hE50
            replace hty_bx := hty_bx.ext hE50
            replace hty_bz := hty_bz.ext hE50
            replace hT := hT.ext hE50
            replace hsz := Nat.le_trans hsz hE50.size
            replace ho50 := own_mono ho50 (show wl23.heap.size ≤ _ by omega)
            refine m_fork3 ?_ ?_
            ·
             have hTo109 := fun g hg => (hT.o1.lt g hg).2
             have hbl_b1 := (hb1.ext (Ext.of_below hBE)).lt
             have hbl_b2 := (hb2.ext (Ext.of_below hBE)).lt
             have hbl_b3 := (hb3.ext (Ext.of_below hBE)).lt
             have hbl_bx := hbx.lt
             have hbl_bz := hbz.lt
             have hszf51 := hBE.size
             refine m_o3 rfl rfl (o_buildSlice (el := 3) (cs := [vint (min 2 (((ns).getD k nt0).le))]) Tryz.underlying27 el3 (by decide) (by kernel_rfl) rfl (by decide) rfl ?_)
             intro b52 w52 hzl52 hzr52 _ hb52 hE52 ho52
             refine ⟨⟨below_ext_of hE52 hBE.size, (fun h => h.ext hE52), (fun h => h.ext hE52)⟩, ?_⟩
             have hne_b1_b52 : b1 ≠ b52 := by have := (hb1.ext (Ext.of_below hBE)).lt; omega
             have hne_b2_b52 : b2 ≠ b52 := by have := (hb2.ext (Ext.of_below hBE)).lt; omega
             have hne_b3_b52 : b3 ≠ b52 := by have := (hb3.ext (Ext.of_below hBE)).lt; omega
             have hne_bx_b52 : bx ≠ b52 := by have := hbx.lt; omega
             have hne_bz_b52 : bz ≠ b52 := by have := hbz.lt; omega
             have hbs_b52 : w.heap.size ≤ b52 := Nat.le_trans hsz hzl52
             replace hB := below_ext hB hE52 hsz
             replace hBE := below_ext hBE hE52 hBE.size
             replace hbx := hbx.ext hE52
             replace hbz := hbz.ext hE52
             replace hty_bx := hty_bx.ext hE52
             replace hty_bz := hty_bz.ext hE52
             replace hT := hT.ext hE52
             replace ho50 := own_ext ho50 hE52
             replace hsz := Nat.le_trans hsz hE52.size
             replace ho52 := own_mono ho52 (show wl23.heap.size ≤ _ by omega)
             have hbl_b1 := (hb1.ext (Ext.of_below hBE)).lt
             have hbl_b2 := (hb2.ext (Ext.of_below hBE)).lt
             have hbl_b3 := (hb3.ext (Ext.of_below hBE)).lt
             have hbl_bx := hbx.lt
             have hbl_bz := hbz.lt
             have hszf53 := hBE.size
             refine m_o3 rfl rfl (o_append_at (f := vint) l1 ([min 2 ((X).getD k 0)]) Tryz.underlying27 el3 rfl rfl hT.o1 rfl (Row.of_owns ho50) (Nat.zero_lt_succ _) (fun _ => rfl) (by (try simp only [List.length_append, List.length_cons, List.length_nil]); omega) hBE.size rfl ?_)
             intro aq54 cq54 w54 hz54 ho54 hG54 hq54
             refine ⟨⟨below_own_of hG54 hT.o1 (Nat.le_refl _) hBE.size, (fun h => h.step hG54 (own_ty_ne hT.o1 hty_bx (by decide))), (fun h => h.step hG54 (own_ty_ne hT.o1 hty_bz (by decide)))⟩, ?_⟩
             replace hB := below_own hB hG54 hT.o1 (by omega) hsz
             replace hsz := Nat.le_trans hsz hG54.size
             replace hBE := below_own hBE hG54 hT.o1 (by first | exact Nat.le_refl _ | omega) hBE.size
             replace hbx := hbx.step hG54 (own_ty_ne hT.o1 hty_bx (by decide))
             replace hbz := hbz.step hG54 (own_ty_ne hT.o1 hty_bz (by decide))
             replace hty_bx := TyAt.own hty_bx hT.o1 hG54 (by decide)
             replace hty_bz := TyAt.own hty_bz hT.o1 hG54 (by decide)
             replace ho52 := own_keepB ho52 (fun g hg => hG54.block g (ho52.lt g hg).2 (fun he => by have h1 := hTo109 g he.symm; have h2 : b52 = g := Option.some.inj hg; omega))
             replace hT := hT.put1 ho54 hG54 hq54
             refine m_q3 rfl rfl (fun w' hC' => q_fieldAddr (o' := 0) rfl fld33_0 rfl) ?_
             have hbl_b1 := (hb1.ext (Ext.of_below hBE)).lt
             have hbl_b2 := (hb2.ext (Ext.of_below hBE)).lt
             have hbl_b3 := (hb3.ext (Ext.of_below hBE)).lt
             have hbl_bx := hbx.lt
             have hbl_bz := hbz.lt
             have hszf55 := hBE.size
             refine m_o3 rfl rfl (o_append_at (f := vint) l2 ([min 2 (((ns).getD k nt0).le)]) Tryz.underlying27 el3 rfl rfl hT.o2 rfl (Row.of_owns ho52) (Nat.zero_lt_succ _) (fun _ => rfl) (by (try simp only [List.length_append, List.length_cons, List.length_nil]); omega) hBE.size rfl ?_)
             intro aq56 cq56 w56 hz56 ho56 hG56 hq56
             refine ⟨⟨below_own_of hG56 hT.o2 (Nat.le_refl _) hBE.size, (fun h => h.step hG56 (own_ty_ne hT.o2 hty_bx (by decide))), (fun h => h.step hG56 (own_ty_ne hT.o2 hty_bz (by decide)))⟩, ?_⟩
             replace hB := below_own hB hG56 hT.o2 (by omega) hsz
             replace hsz := Nat.le_trans hsz hG56.size
             replace hBE := below_own hBE hG56 hT.o2 (by first | exact Nat.le_refl _ | omega) hBE.size
             replace hbx := hbx.step hG56 (own_ty_ne hT.o2 hty_bx (by decide))
             replace hbz := hbz.step hG56 (own_ty_ne hT.o2 hty_bz (by decide))
             replace hty_bx := TyAt.own hty_bx hT.o2 hG56 (by decide)
             replace hty_bz := TyAt.own hty_bz hT.o2 hG56 (by decide)
             replace hT := hT.put2 ho56 hG56 hq56
             refine m_last3 rfl rfl rfl (o_storet (vs := [.slice aq54 ((l1 ++ [min 2 ((X).getD k 0)]).length) cq54]) (cs' := [.slice aq54 ((l1 ++ [min 2 ((X).getD k 0)]).length) cq54, .slice pa pl.length pc, .slice ca L.length cc]) Tryz.sizeOf27 rfl rfl rfl rfl hbx (Nat.le_of_ble_eq_true rfl) rfl rfl ?_)
             intro w57 hz57 hbx hT57 hG57
             replace hB := below_upd hB hG57 hsz (by omega)
             replace hsz : w.heap.size ≤ w57.heap.size := by rw [hz57]; exact hsz
             replace hBE := below_upd hBE hG57 hBE.size (by omega)
             replace hbz := hbz.upd hG57 (by omega)
             replace hty_bz := hty_bz.upd hG57 (by omega)
             replace hT := TwoI.tyupd hT hty_bx hG57 (by decide)
             replace hty_bx := hT57 _ hty_bx
             refine m_q3 rfl rfl (fun w' hC' => q_fieldAddr (o' := 0) rfl fld33_0 rfl) (m_last3 rfl rfl rfl (o_storet (vs := [.slice aq56 ((l2 ++ [min 2 (((ns).getD k nt0).le)]).length) cq56]) (cs' := [.slice aq56 ((l2 ++ [min 2 (((ns).getD k nt0).le)]).length) cq56, .slice pa pl.length pc, .slice ca L.length cc]) Tryz.sizeOf27 rfl rfl rfl rfl hbz (Nat.le_of_ble_eq_true rfl) rfl rfl ?_))
             intro w58 hz58 hbz hT58 hG58
             replace hB := below_upd hB hG58 hsz (by omega)
             replace hsz : w.heap.size ≤ w58.heap.size := by rw [hz58]; exact hsz
             replace hBE := below_upd hBE hG58 hBE.size (by omega)
             replace hbx := hbx.upd hG58 (by omega)
             replace hty_bx := hty_bx.upd hG58 (by omega)
             replace hT := TwoI.tyupd hT hty_bz hG58 (by decide)
             replace hty_bz := hT58 _ hty_bz
             refine m_nil3 (r_forget [(3, .slice _ _ _), (4, .int _ _), (5, .pointer _), (6, .pointer _), (11, .slice _ _ _), (14, .pointer _), (15, .pointer _), (16, .int _ _)] ⟨rfl, rfl, rfl, rfl, rfl, rfl, rfl, rfl, trivial⟩ (fun e59 => (r_inBlock (r_region' (l_q (qmi rfl rfl) (l_q (q_add rfl rfl (by omega) rfl) (l_q (qai rfl rfl) (l_nil ?_))))))))
             exact ih33 ⟨k + 1, aq54, cq54, (l1 ++ [min 2 ((X).getD k 0)]), aq56, cq56, (l2 ++ [min 2 (((ns).getD k nt0).le)])⟩ _ _ ⟨⟨rfl, rfl, rfl, rfl, rfl, rfl, rfl, (vint_eq (by omega)), trivial⟩, (by omega), (min_snoc hl1 (by omega)), (mine_snoc hl2 hkn), hT, hbx, hbz, hBE, hty_bx, hty_bz, hsz, hB⟩ (by first | omega | (dsimp only; omega))
            ·
             have hbl_b1 := (hb1.ext (Ext.of_below hBE)).lt
             have hbl_b2 := (hb2.ext (Ext.of_below hBE)).lt
             have hbl_b3 := (hb3.ext (Ext.of_below hBE)).lt
             have hbl_bx := hbx.lt
             have hbl_bz := hbz.lt
             have hszf60 := hBE.size
             refine m_o3 rfl rfl (o_append_at (f := vint) l1 ([min 2 ((X).getD k 0)]) Tryz.underlying27 el3 rfl rfl hT.o1 rfl (Row.of_owns ho50) (Nat.zero_lt_succ _) (fun _ => rfl) (by (try simp only [List.length_append, List.length_cons, List.length_nil]); omega) hBE.size rfl ?_)
             intro aq61 cq61 w61 hz61 ho61 hG61 hq61
             refine ⟨⟨below_own_of hG61 hT.o1 (Nat.le_refl _) hBE.size, (fun h => h.step hG61 (own_ty_ne hT.o1 hty_bx (by decide))), (fun h => h.step hG61 (own_ty_ne hT.o1 hty_bz (by decide)))⟩, ?_⟩
             replace hB := below_own hB hG61 hT.o1 (by omega) hsz
             replace hsz := Nat.le_trans hsz hG61.size
             replace hBE := below_own hBE hG61 hT.o1 (by first | exact Nat.le_refl _ | omega) hBE.size
             replace hbx := hbx.step hG61 (own_ty_ne hT.o1 hty_bx (by decide))
             replace hbz := hbz.step hG61 (own_ty_ne hT.o1 hty_bz (by decide))
             replace hty_bx := TyAt.own hty_bx hT.o1 hG61 (by decide)
             replace hty_bz := TyAt.own hty_bz hT.o1 hG61 (by decide)
             replace hT := hT.put1 ho61 hG61 hq61
             refine m_q3 rfl rfl (fun w' hC' => q_fieldAddr (o' := 0) rfl fld33_0 rfl) ?_
             have hTo109 := fun g hg => (hT.o1.lt g hg).2
             have hbl_b1 := (hb1.ext (Ext.of_below hBE)).lt
             have hbl_b2 := (hb2.ext (Ext.of_below hBE)).lt
             have hbl_b3 := (hb3.ext (Ext.of_below hBE)).lt
             have hbl_bx := hbx.lt
             have hbl_bz := hbz.lt
             have hszf62 := hBE.size
             refine m_o3 rfl rfl (o_buildSlice (el := 3) (cs := [vint (min 2 (((ns).getD k nt0).le))]) Tryz.underlying27 el3 (by decide) (by kernel_rfl) rfl (by decide) rfl ?_)
             intro b63 w63 hzl63 hzr63 _ hb63 hE63 ho63
             refine ⟨⟨below_ext_of hE63 hBE.size, (fun h => h.ext hE63), (fun h => h.ext hE63)⟩, ?_⟩
             have hne_b1_b63 : b1 ≠ b63 := by have := (hb1.ext (Ext.of_below hBE)).lt; omega
             have hne_b2_b63 : b2 ≠ b63 := by have := (hb2.ext (Ext.of_below hBE)).lt; omega
             have hne_b3_b63 : b3 ≠ b63 := by have := (hb3.ext (Ext.of_below hBE)).lt; omega
             have hne_bx_b63 : bx ≠ b63 := by have := hbx.lt; omega
             have hne_bz_b63 : bz ≠ b63 := by have := hbz.lt; omega
             have hbs_b63 : w.heap.size ≤ b63 := Nat.le_trans hsz hzl63
             replace hB := below_ext hB hE63 hsz
             replace hBE := below_ext hBE hE63 hBE.size
             replace hbx := hbx.ext hE63
             replace hbz := hbz.ext hE63
             replace hty_bx := hty_bx.ext hE63
             replace hty_bz := hty_bz.ext hE63
             replace hT := hT.ext hE63
             replace hsz := Nat.le_trans hsz hE63.size
             replace ho63 := own_mono ho63 (show wl23.heap.size ≤ _ by omega)
             have hbl_b1 := (hb1.ext (Ext.of_below hBE)).lt
             have hbl_b2 := (hb2.ext (Ext.of_below hBE)).lt
             have hbl_b3 := (hb3.ext (Ext.of_below hBE)).lt
             have hbl_bx := hbx.lt
             have hbl_bz := hbz.lt
             have hszf64 := hBE.size
             refine m_o3 rfl rfl (o_append_at (f := vint) l2 ([min 2 (((ns).getD k nt0).le)]) Tryz.underlying27 el3 rfl rfl hT.o2 rfl (Row.of_owns ho63) (Nat.zero_lt_succ _) (fun _ => rfl) (by (try simp only [List.length_append, List.length_cons, List.length_nil]); omega) hBE.size rfl ?_)
             intro aq65 cq65 w65 hz65 ho65 hG65 hq65
             refine ⟨⟨below_own_of hG65 hT.o2 (Nat.le_refl _) hBE.size, (fun h => h.step hG65 (own_ty_ne hT.o2 hty_bx (by decide))), (fun h => h.step hG65 (own_ty_ne hT.o2 hty_bz (by decide)))⟩, ?_⟩
             replace hB := below_own hB hG65 hT.o2 (by omega) hsz
             replace hsz := Nat.le_trans hsz hG65.size
             replace hBE := below_own hBE hG65 hT.o2 (by first | exact Nat.le_refl _ | omega) hBE.size
             replace hbx := hbx.step hG65 (own_ty_ne hT.o2 hty_bx (by decide))
             replace hbz := hbz.step hG65 (own_ty_ne hT.o2 hty_bz (by decide))
             replace hty_bx := TyAt.own hty_bx hT.o2 hG65 (by decide)
             replace hty_bz := TyAt.own hty_bz hT.o2 hG65 (by decide)
             replace hT := hT.put2 ho65 hG65 hq65
             refine m_last3 rfl rfl rfl (o_storet (vs := [.slice aq61 ((l1 ++ [min 2 ((X).getD k 0)]).length) cq61]) (cs' := [.slice aq61 ((l1 ++ [min 2 ((X).getD k 0)]).length) cq61, .slice pa pl.length pc, .slice ca L.length cc]) Tryz.sizeOf27 rfl rfl rfl rfl hbx (Nat.le_of_ble_eq_true rfl) rfl rfl ?_)
             intro w66 hz66 hbx hT66 hG66
             replace hB := below_upd hB hG66 hsz (by omega)
             replace hsz : w.heap.size ≤ w66.heap.size := by rw [hz66]; exact hsz
             replace hBE := below_upd hBE hG66 hBE.size (by omega)
             replace hbz := hbz.upd hG66 (by omega)
             replace hty_bz := hty_bz.upd hG66 (by omega)
             replace hT := TwoI.tyupd hT hty_bx hG66 (by decide)
             replace hty_bx := hT66 _ hty_bx
             refine m_q3 rfl rfl (fun w' hC' => q_fieldAddr (o' := 0) rfl fld33_0 rfl) (m_last3 rfl rfl rfl (o_storet (vs := [.slice aq65 ((l2 ++ [min 2 (((ns).getD k nt0).le)]).length) cq65]) (cs' := [.slice aq65 ((l2 ++ [min 2 (((ns).getD k nt0).le)]).length) cq65, .slice pa pl.length pc, .slice ca L.length cc]) Tryz.sizeOf27 rfl rfl rfl rfl hbz (Nat.le_of_ble_eq_true rfl) rfl rfl ?_))
             intro w67 hz67 hbz hT67 hG67
             replace hB := below_upd hB hG67 hsz (by omega)
             replace hsz : w.heap.size ≤ w67.heap.size := by rw [hz67]; exact hsz
             replace hBE := below_upd hBE hG67 hBE.size (by omega)
             replace hbx := hbx.upd hG67 (by omega)
             replace hty_bx := hty_bx.upd hG67 (by omega)
             replace hT := TwoI.tyupd hT hty_bz hG67 (by decide)
             replace hty_bz := hT67 _ hty_bz
             refine m_nil3 (r_forget [(3, .slice _ _ _), (4, .int _ _), (5, .pointer _), (6, .pointer _), (11, .slice _ _ _), (14, .pointer _), (15, .pointer _), (16, .int _ _)] ⟨rfl, rfl, rfl, rfl, rfl, rfl, rfl, rfl, trivial⟩ (fun e68 => (r_inBlock (r_region' (l_q (qmi rfl rfl) (l_q (q_add rfl rfl (by omega) rfl) (l_q (qai rfl rfl) (l_nil ?_))))))))
             exact ih33 ⟨k + 1, aq61, cq61, (l1 ++ [min 2 ((X).getD k 0)]), aq65, cq65, (l2 ++ [min 2 (((ns).getD k nt0).le)])⟩ _ _ ⟨⟨rfl, rfl, rfl, rfl, rfl, rfl, rfl, (vint_eq (by omega)), trivial⟩, (by omega), (min_snoc hl1 (by omega)), (mine_snoc hl2 hkn), hT, hbx, hbz, hBE, hty_bx, hty_bz, hsz, hB⟩ (by first | omega | (dsimp only; omega))
          ·
           replace hc34 := dlt hc34
           refine r_exit rfl (r_seq (r_seq ?_))
           have hkk : k = ns.length := by omega
           rw [hkk, List.take_length] at hl2
           rw [hkk, ← hXl, List.take_length] at hl1
           have hl1n : l1.length = ns.length := by rw [hl1, List.length_map, hXl]
           have hl2n : l2.length = ns.length := by rw [hl2, List.length_map]
           have hbgx : PoBig l1 pl L := big_nd hbg (by omega)
           have hbgz : PoBig l2 pl L := big_nd hbg (by omega)
           refine r_region' (l_q (q_load_agg (n := 3) Tryz.isAgg33 Tryz.sizeOf33 rfl ((hbx.cells' (cs' := [_, _, _]) 0 3 rfl)) rfl rfl) (l_o (o_call Tryz.call12 rfl (fault10_ret a1 c1 l1 pa pc pl ca cc L _ ⟨(Row.of_owns hT.o1), (hpo.rpl.below hB), (hpo.rplr.below hB), (hpo.rC.below hB), (hpo.rCr.below hB)⟩ hbgx.1 hbgx.2.1 hbgx.2.2.1 hbgx.2.2.2.1) rfl ?_)))
           rintro _ w69 ⟨rfl, hE69⟩
           replace hB := below_ext hB hE69 hsz
           replace hBE := below_ext hBE hE69 hBE.size
           replace hbx := hbx.ext hE69
           replace hbz := hbz.ext hE69
           replace hty_bx := hty_bx.ext hE69
           replace hty_bz := hty_bz.ext hE69
           replace hT := hT.ext hE69
           replace hsz := Nat.le_trans hsz hE69.size
           refine l_q (q_neq rfl rfl rfl) (l_nil (r_cond rfl (fun hc70 => ?_) (fun hc70 => ?_)))
           ·
            replace hc70 := df (nt hc70)
            refine r_seq (r_region' (l_o (o_call Tryz.call8 rfl (manned_ret _) rfl ?_)))
            rintro _ w71 ⟨rfl, hE71⟩
            replace hB := below_ext hB hE71 hsz
            replace hBE := below_ext hBE hE71 hBE.size
            replace hbx := hbx.ext hE71
            replace hbz := hbz.ext hE71
            replace hty_bx := hty_bx.ext hE71
            replace hty_bz := hty_bz.ext hE71
            replace hT := hT.ext hE71
            replace hsz := Nat.le_trans hsz hE71.size
            refine l_q (qab rfl rfl) (l_nil (r_forget [(10, .bool _)] ⟨rfl, trivial⟩ (fun e72 => (r_ret_ (vs := [.bool _]) rfl Tryz.func3 rfl (.nil _) ⟨rfl, trivial⟩ ?_))))
            exact ⟨rfl, Ext.of_below hB⟩
           ·
            replace hc70 := dt (nf hc70)
            have hokx : faultP (po l1 pl L) = 0 := hc70
            obtain ⟨hoky, hhard⟩ := man_facts hos hlp hXl (hl1 ▸ hokx)
            rw [← hl1, ← hl2] at hhard
            rw [← hl2] at hoky
            refine r_skip (r_seq (r_region' (l_q (q_load_agg (n := 5) Tryz.isAgg26 Tryz.sizeOf26 rfl (((hb1.ext (Ext.of_below hBE)).cells' (cs' := [_, _, _, _, _]) 0 5 rfl)) rfl rfl) (l_q (qms rfl rfl) (l_o (o_call Tryz.call13 rfl (Picked8_ret cap can s0 s1 sa sc ns wa wc ws _ (hns.below hB) (hwd.below hB) hwn hwr hos) rfl ?_))))))
            rintro _ w73 ⟨st0, ta, tc, Y, rfl, hY, hstr, hbp, hE73⟩
            replace hB := below_ext hB hE73 hsz
            replace hBE := below_ext hBE hE73 hBE.size
            replace hbx := hbx.ext hE73
            replace hbz := hbz.ext hE73
            replace hty_bx := hty_bx.ext hE73
            replace hty_bz := hty_bz.ext hE73
            replace hT := hT.ext hE73
            replace hsz := Nat.le_trans hsz hE73.size
            have hltY := row_lows hY
            have hYl : Y.length ≤ 2097152 := by have := hbp.1; omega
            have hbq16 := hBE.size
            refine l_o (o_alloct Tryz.zeroValue52 rfl rfl ?_)
            intro b74 w74 hzl74 hzr74 _ hb74 hty_b74 hE74
            have hne_b1_b74 : b1 ≠ b74 := by have := (hb1.ext (Ext.of_below hBE)).lt; omega
            have hne_b2_b74 : b2 ≠ b74 := by have := (hb2.ext (Ext.of_below hBE)).lt; omega
            have hne_b3_b74 : b3 ≠ b74 := by have := (hb3.ext (Ext.of_below hBE)).lt; omega
            have hne_bx_b74 : bx ≠ b74 := by have := hbx.lt; omega
            have hne_bz_b74 : bz ≠ b74 := by have := hbz.lt; omega
            have hbs_b74 : w.heap.size ≤ b74 := Nat.le_trans hsz hzl74
            replace hB := below_ext hB hE74 hsz
            replace hBE := below_ext hBE hE74 hBE.size
            replace hbx := hbx.ext hE74
            replace hbz := hbz.ext hE74
            replace hty_bx := hty_bx.ext hE74
            replace hty_bz := hty_bz.ext hE74
            replace hT := hT.ext hE74
            replace hY := hY.ext hE74
            replace hsz := Nat.le_trans hsz hE74.size
            refine l_o (o_storet (vs := [vint st0, .slice ta ((Y).length) tc]) (cs' := [vint st0, .slice ta ((Y).length) tc]) Tryz.sizeOf52 rfl rfl rfl rfl hb74 (Nat.le_of_ble_eq_true rfl) rfl rfl ?_)
            intro w75 hz75 hb74 hT75 hG75
            replace hB := below_upd hB hG75 hsz (by omega)
            replace hsz : w.heap.size ≤ w75.heap.size := by rw [hz75]; exact hsz
            replace hBE := below_upd hBE hG75 hBE.size (by omega)
            replace hbx := hbx.upd hG75 (by omega)
            replace hbz := hbz.upd hG75 (by omega)
            replace hty_bx := hty_bx.upd hG75 (by omega)
            replace hty_bz := hty_bz.upd hG75 (by omega)
            replace hT := TwoI.tyupd hT hty_b74 hG75 (by decide)
            replace hY := row_updlow hY hltY hG75 (by omega)
            replace hty_b74 := hT75 _ hty_b74
            refine l_nil (r_forget [(4, .int _ _), (5, .pointer _), (6, .pointer _), (11, .slice _ _ _), (14, .pointer _), (15, .pointer _), (17, .pointer _)] ⟨rfl, rfl, rfl, rfl, rfl, rfl, rfl, trivial⟩ (fun e76 => (r_seq ?_)))
            refine r_ifj (α := (Option Addr) × Nat) (fun ⟨la, lc⟩ e wl => Knows e [(4, .int .u8 wh), (5, ptr b1 0), (14, ptr bx 0), (15, ptr bz 0), (20, .slice la ((List.replicate ns.length true).length) lc), (21, vint 0)] ∧ (Row wl la ((List.replicate ns.length true).length) lc 1 ((List.replicate ns.length true).map Value.bool)) ∧ (Below wl23.heap.size wl23 wl) ∧ (Blk wl bx [.slice a1 ((l1).length) c1, .slice pa pl.length pc, .slice ca L.length cc]) ∧ (Blk wl bz [.slice a2 ((l2).length) c2, .slice pa pl.length pc, .slice ca L.length cc]) ∧ (TyAt wl bx 33) ∧ (TyAt wl bz 33) ∧ (TwoI wl wl23.heap.size 3 a1 c1 l1 a2 c2 l2) ∧ (Row wl ta ((Y).length) tc 1 ((Y).map vint)) ∧ (Blk wl b74 [vint st0, .slice ta ((Y).length) tc]) ∧ (TyAt wl b74 52) ∧ (w.heap.size ≤ wl.heap.size) ∧ (Below w.heap.size w wl)) ?_ ?_
            ·
             rintro ⟨la, lc⟩ el77 wl77 ⟨hkn, hLt, hBE, hbx, hbz, hty_bx, hty_bz, hT, hY, hb74, hty_b74, hsz, hB⟩
             obtain ⟨e77, rfl⟩ := knows_env hkn
             refine r_seq (r_seq ?_)
             have hlr : (List.replicate ns.length true).length = ns.length := List.length_replicate
             refine r_region' (l_q (qmi rfl rfl) (l_q (q_neq rfl rfl rfl) (l_q (qmb rfl rfl) ?_)))
             have hk78 : (!decide (0 = 0)) = false := by decide
             refine l_part 140 rfl (fun hx => absurd (hk78.symm.trans hx) (by decide)) (fun _ => (l_q (qms rfl rfl) (l_q (q_len rfl Tryz.underlying54 rfl rfl) (l_q (q_fieldAddr (o' := 4) rfl fld26_3 rfl) (l_q (q_load Tryz.isAgg24 rfl (((hb1.ext (Ext.of_below hBE)).has (o := 4) rfl)) rfl) (l_q (q_len rfl Tryz.underlying24 rfl rfl) (l_q (q_neq rfl rfl rfl) (l_q (q_pick_f (v := .bool _) rfl rfl rfl) (l_nil (r_forget [(4, .int _ _), (14, .pointer _), (15, .pointer _), (20, .slice _ _ _), (147, .bool _)] ⟨rfl, rfl, rfl, rfl, rfl, trivial⟩ (fun e79 => ?_)))))))))))
             have hk80 : (!decide (((List.replicate ns.length true).length : Int) = (ns.length : Int))) = false := by rw [hlr]; simp
             refine r_cond_f ((congrArg Value.bool hk80 : Value.bool _ = _)) (r_skip (r_seq (r_seq (r_region' (l_q (qai rfl rfl) (l_nil (r_block ?_)))))))
             refine r_rounds (α := Nat) (fun i e wl => Knows e [(4, .int .u8 wh), (14, ptr bx 0), (15, ptr bz 0), (20, .slice la ((List.replicate ns.length true).length) lc), (22, vint (i : Int))] ∧ (i ≤ ns.length) ∧ (Below wl23.heap.size wl23 wl) ∧ (Blk wl bx [.slice a1 ((l1).length) c1, .slice pa pl.length pc, .slice ca L.length cc]) ∧ (Blk wl bz [.slice a2 ((l2).length) c2, .slice pa pl.length pc, .slice ca L.length cc]) ∧ (TyAt wl bx 33) ∧ (TyAt wl bz 33) ∧ (TwoI wl wl23.heap.size 3 a1 c1 l1 a2 c2 l2) ∧ (Row wl ta ((Y).length) tc 1 ((Y).map vint)) ∧ (Blk wl b74 [vint st0, .slice ta ((Y).length) tc]) ∧ (TyAt wl b74 52) ∧ (Row wl la ((List.replicate ns.length true).length) lc 1 ((List.replicate ns.length true).map Value.bool)) ∧ (w.heap.size ≤ wl.heap.size) ∧ (Below w.heap.size w wl)) (fun i => ns.length - i) 0 ?_ ?_
             ·
              exact ⟨⟨rfl, rfl, rfl, rfl, rfl, trivial⟩, (Nat.zero_le _), hBE, hbx, hbz, hty_bx, hty_bz, hT, hY, hb74, hty_b74, hLt, hsz, hB⟩
             ·
              rintro i el81 wl81 ⟨hkn, hki, hBE, hbx, hbz, hty_bx, hty_bz, hT, hY, hb74, hty_b74, hLt, hsz, hB⟩ ih81
              obtain ⟨e81, rfl⟩ := knows_env hkn
              refine r_seq (r_seq (r_region' (l_q (qmi rfl rfl) (l_q (qms rfl rfl) (l_q (q_len rfl Tryz.underlying54 rfl rfl) (l_q (q_lss rfl rfl rfl) (l_nil (r_cond rfl (fun hc82 => ?_) (fun hc82 => ?_)))))))))
              ·
               replace hc82 := dt hc82
               have hil : i < ns.length := by omega
               refine r_skip (r_seq (r_block (r_seq (r_region' (l_q (qms rfl rfl) (l_q (qmi rfl rfl) ?_))))))
               obtain ⟨b83, o83, ha83, hh83⟩ := hLt.at1 i (((List.replicate ns.length true)).getD i false) (getD_some (by omega))
               refine l_q (q_indexAddr1 Tryz.underlying54 Tryz.sizeOf4 rfl ha83 rfl (by omega) rfl) (l_q (q_load Tryz.isAgg4 rfl (hh83) rfl) (l_q (q_not rfl rfl) (l_nil ?_)))
               have hk84 : (!(((List.replicate ns.length true)).getD i false)) = false := by rw [rep_get hil]; rfl
               refine r_cond_f ((congrArg Value.bool hk84 : Value.bool _ = _)) (r_skip (r_inBlock (r_region' (l_q (qmi rfl rfl) (l_q (q_add rfl rfl (by omega) rfl) (l_q (qai rfl rfl) (l_nil (r_forget [(4, .int _ _), (14, .pointer _), (15, .pointer _), (20, .slice _ _ _), (22, .int _ _)] ⟨rfl, rfl, rfl, rfl, rfl, trivial⟩ (fun e85 => ?_)))))))))
               exact ih81 (i + 1) _ _ ⟨⟨rfl, rfl, rfl, rfl, by first | rfl | exact vint_eq (by omega), trivial⟩, (by omega), hBE, hbx, hbz, hty_bx, hty_bz, hT, hY, hb74, hty_b74, hLt, hsz, hB⟩ (by first | omega | (dsimp only; omega))
              ·
               replace hc82 := dlt hc82
               refine r_exit rfl (r_seq (r_region' (l_q (q_load_agg (n := 3) Tryz.isAgg33 Tryz.sizeOf33 rfl ((hbx.cells' (cs' := [_, _, _]) 0 3 rfl)) rfl rfl) (l_o (o_call Tryz.call17 rfl (post10_ret a1 c1 l1 pa pc pl ca cc L _ ⟨(Row.of_owns hT.o1), (hpo.rpl.below hB), (hpo.rplr.below hB), (hpo.rC.below hB), (hpo.rCr.below hB)⟩ hbgx) rfl ?_)))))
               rintro _ w86 ⟨pna86, pnc86, ppa86, ppc86, ppl86, pca86, pcc86, pL86, rfl, hpo86, hpp86, hpL86, hE86⟩
               replace hB := below_ext hB hE86 hsz
               replace hBE := below_ext hBE hE86 hBE.size
               replace hbx := hbx.ext hE86
               replace hbz := hbz.ext hE86
               replace hty_bx := hty_bx.ext hE86
               replace hty_bz := hty_bz.ext hE86
               replace hT := hT.ext hE86
               replace hY := hY.ext hE86
               replace hb74 := hb74.ext hE86
               replace hty_b74 := hty_b74.ext hE86
               replace hLt := hLt.ext hE86
               replace hsz := Nat.le_trans hsz hE86.size
               have hbg86 := post_big hpp86 hpL86 hbgx
               refine l_o (o_call Tryz.call16 rfl ((by have h := best_ret pna86 pnc86 l1 ppa86 ppc86 ppl86 pca86 pcc86 pL86 _ hpo86 hbg86.1 hbg86.2.1 hbg86.2.2.1 hbg86.2.2.2.1; rw [best_pn hpp86 hpL86] at h; exact h)) rfl ?_)
               rintro _ w87 ⟨ra87, rc87, R87, rfl, hRo87, hRs87, hRm87, hE87⟩
               replace hB := below_ext hB hE87 hsz
               replace hBE := below_ext hBE hE87 hBE.size
               replace hbx := hbx.ext hE87
               replace hbz := hbz.ext hE87
               replace hty_bx := hty_bx.ext hE87
               replace hty_bz := hty_bz.ext hE87
               replace hT := hT.ext hE87
               replace hY := hY.ext hE87
               replace hb74 := hb74.ext hE87
               replace hty_b74 := hty_b74.ext hE87
               replace hLt := hLt.ext hE87
               replace hsz := Nat.le_trans hsz hE87.size
               have hR87 := Row.of_owns hRo87
               have hRr87 := hRs87.rows
               refine l_q (q_move (v := .tuple _) rfl rfl) (l_q (q_extract (vs := [_, _, _]) (v := .slice _ _ _) rfl rfl rfl) (l_q (q_extract (vs := [_, _, _]) (v := .int _ _) rfl rfl rfl) (l_q (q_extract (vs := [_, _, _]) (v := .int _ _) rfl rfl rfl) (l_q (qas rfl rfl) (l_q (qai rfl rfl) (l_q (qai rfl rfl) (l_nil (r_forget [(4, .int _ _), (14, .pointer _), (15, .pointer _), (23, .slice _ _ _), (24, .int _ _), (25, .int _ _)] ⟨rfl, rfl, rfl, rfl, rfl, rfl, trivial⟩ (fun e88 => (r_seq (r_region' (l_q (q_load_agg (n := 3) Tryz.isAgg33 Tryz.sizeOf33 rfl ((hbz.cells' (cs' := [_, _, _]) 0 3 rfl)) rfl rfl) (l_o (o_call Tryz.call17 rfl (post10_ret a2 c2 l2 pa pc pl ca cc L _ ⟨(Row.of_owns hT.o2), (hpo.rpl.below hB), (hpo.rplr.below hB), (hpo.rC.below hB), (hpo.rCr.below hB)⟩ hbgz) rfl ?_))))))))))))))
               rintro _ w89 ⟨pna89, pnc89, ppa89, ppc89, ppl89, pca89, pcc89, pL89, rfl, hpo89, hpp89, hpL89, hE89⟩
               replace hB := below_ext hB hE89 hsz
               replace hBE := below_ext hBE hE89 hBE.size
               replace hbx := hbx.ext hE89
               replace hbz := hbz.ext hE89
               replace hty_bx := hty_bx.ext hE89
               replace hty_bz := hty_bz.ext hE89
               replace hT := hT.ext hE89
               replace hY := hY.ext hE89
               replace hb74 := hb74.ext hE89
               replace hty_b74 := hty_b74.ext hE89
               replace hLt := hLt.ext hE89
               replace hR87 := hR87.ext hE89
               replace hRr87 := hRr87.ext hE89
               replace hsz := Nat.le_trans hsz hE89.size
               have hbg89 := post_big hpp89 hpL89 hbgz
               refine l_o (o_call Tryz.call16 rfl ((by have h := best_ret pna89 pnc89 l2 ppa89 ppc89 ppl89 pca89 pcc89 pL89 _ hpo89 hbg89.1 hbg89.2.1 hbg89.2.2.1 hbg89.2.2.2.1; rw [best_pn hpp89 hpL89] at h; exact h)) rfl ?_)
               rintro _ w90 ⟨ra90, rc90, R90, rfl, hRo90, hRs90, hRm90, hE90⟩
               replace hB := below_ext hB hE90 hsz
               replace hBE := below_ext hBE hE90 hBE.size
               replace hbx := hbx.ext hE90
               replace hbz := hbz.ext hE90
               replace hty_bx := hty_bx.ext hE90
               replace hty_bz := hty_bz.ext hE90
               replace hT := hT.ext hE90
               replace hY := hY.ext hE90
               replace hb74 := hb74.ext hE90
               replace hty_b74 := hty_b74.ext hE90
               replace hLt := hLt.ext hE90
               replace hR87 := hR87.ext hE90
               replace hRr87 := hRr87.ext hE90
               replace hsz := Nat.le_trans hsz hE90.size
               have hR90 := Row.of_owns hRo90
               have hRr90 := hRs90.rows
               refine l_q (q_move (v := .tuple _) rfl rfl) (l_q (q_extract (vs := [_, _, _]) (v := .slice _ _ _) rfl rfl rfl) (l_q (q_extract (vs := [_, _, _]) (v := .int _ _) rfl rfl rfl) (l_q (q_extract (vs := [_, _, _]) (v := .int _ _) rfl rfl rfl) (l_q (qas rfl rfl) (l_q (qai rfl rfl) (l_q (qai rfl rfl) (l_nil (r_seq (r_seq (r_region' (l_q (qmi rfl rfl) (l_q (q_neq rfl rfl rfl) (l_nil (r_forget [(4, .int _ _), (14, .pointer _), (23, .slice _ _ _), (24, .int _ _), (25, .int _ _), (27, .int _ _), (28, .int _ _), (174, .bool _)] ⟨rfl, rfl, rfl, rfl, rfl, rfl, rfl, rfl, trivial⟩ (fun e91 => (r_cond rfl (fun hc92 => ?_) (fun hc92 => ?_)))))))))))))))))
               ·
                replace hc92 := df (nt hc92)
                have hb10 := bst_no hokx hc92
                refine r_seq (r_region' (l_q (qmi rfl rfl) (l_q (q_eql rfl rfl rfl) (l_q (qmb rfl rfl) ?_))))
                have hk93 : (decide (((bestR l1 pl L).2.2) = 10)) = true := by rw [hb10.1]; rfl
                refine l_part 177 rfl (fun _ => ?_) (fun hx => absurd (hk93.symm.trans hx) (by decide))
                refine l_q (qmi rfl rfl) (l_q (q_eql rfl rfl rfl) (l_q (qmb rfl rfl) (l_part 180 rfl (fun hc94 => ?_) (fun hc94 => ?_))))
                ·
                 replace hc94 := dt hc94
                 refine l_q (q_skip rfl) (l_q (q_skip rfl) (l_q (q_pick_t (v := .bool _) rfl rfl rfl) (l_q (q_pick_t (v := .bool _) rfl rfl rfl) (l_q (qmb rfl rfl) (l_o (o_call Tryz.call8 rfl (manned_ret _) rfl ?_))))))
                 rintro _ w95 ⟨rfl, hE95⟩
                 replace hB := below_ext hB hE95 hsz
                 replace hBE := below_ext hBE hE95 hBE.size
                 replace hbx := hbx.ext hE95
                 replace hbz := hbz.ext hE95
                 replace hty_bx := hty_bx.ext hE95
                 replace hty_bz := hty_bz.ext hE95
                 replace hT := hT.ext hE95
                 replace hY := hY.ext hE95
                 replace hb74 := hb74.ext hE95
                 replace hty_b74 := hty_b74.ext hE95
                 replace hLt := hLt.ext hE95
                 replace hR87 := hR87.ext hE95
                 replace hRr87 := hRr87.ext hE95
                 replace hsz := Nat.le_trans hsz hE95.size
                 refine l_q (q_pick_t (v := .bool _) rfl rfl rfl) (l_q (qab rfl rfl) (l_nil (r_forget [(10, .bool _)] ⟨rfl, trivial⟩ (fun e96 => (r_ret_ (vs := [.bool _]) rfl Tryz.func3 rfl (.nil _) ⟨rfl, trivial⟩ ?_)))))
                 exact ⟨rfl, Ext.of_below hB⟩
                ·
                 replace hc94 := df hc94
                 have g180 := hc94
                 refine l_q (qmi rfl rfl) (l_q (q_eql rfl rfl rfl) (l_q (q_pick_f (v := .bool _) rfl rfl rfl) (l_q (q_pick_t (v := .bool _) rfl rfl rfl) (l_q (qmb rfl rfl) ?_))))
                 have hk97 : (decide (((bestR l2 pl L).2.2) = 10)) = true := by first | rfl | (rw [(bst_no hoky g180).1]; rfl)
                 refine l_part 185 rfl (fun _ => ?_) (fun hx => absurd (hk97.symm.trans hx) (by decide))
                 refine l_o (o_call Tryz.call8 rfl (manned_ret _) rfl ?_)
                 rintro _ w98 ⟨rfl, hE98⟩
                 replace hB := below_ext hB hE98 hsz
                 replace hBE := below_ext hBE hE98 hBE.size
                 replace hbx := hbx.ext hE98
                 replace hbz := hbz.ext hE98
                 replace hty_bx := hty_bx.ext hE98
                 replace hty_bz := hty_bz.ext hE98
                 replace hT := hT.ext hE98
                 replace hY := hY.ext hE98
                 replace hb74 := hb74.ext hE98
                 replace hty_b74 := hty_b74.ext hE98
                 replace hLt := hLt.ext hE98
                 replace hR87 := hR87.ext hE98
                 replace hRr87 := hRr87.ext hE98
                 replace hsz := Nat.le_trans hsz hE98.size
                 refine l_q (q_pick_t (v := .bool _) rfl rfl rfl) (l_q (qab rfl rfl) (l_nil (r_forget [(10, .bool _)] ⟨rfl, trivial⟩ (fun e99 => (r_ret_ (vs := [.bool _]) rfl Tryz.func3 rfl (.nil _) ⟨rfl, trivial⟩ ?_)))))
                 exact ⟨rfl, Ext.of_below hB⟩
               ·
                replace hc92 := dt (nf hc92)
                skip
                have hb0 : (bestR l1 pl L).2.2 = 0 := hc92
                obtain ⟨hI, hcT, hdT, _⟩ := bst_yes hokx hb0
                have hRs := rows_small hRm87 (bst_sm hokx)
                rw [← hRm87] at hI hcT
                have hp := plan_zero hokx hI
                have hsf := (chn_safe (C := (L.map (·.xs))) hokx hI).trans hcT
                have hRn : R87.length = l1.length := by have := hI.1; rwa [List.length_map] at this
                obtain ⟨hy0, hyd⟩ := hhard (by rw [hb0]; decide)
                have hm1 := Int.emod_nonneg wh (show ((L.length : Int) + 1) ≠ 0 by omega)
                have hm2 := Int.emod_lt_of_pos wh (show (0 : Int) < (L.length : Int) + 1 by omega)
                refine r_skip (r_seq (r_seq (r_region' (l_q (q_load_agg (n := 3) Tryz.isAgg33 Tryz.sizeOf33 rfl ((hbx.cells' (cs' := [_, _, _]) 0 3 rfl)) rfl rfl) (l_q (qms rfl rfl) (l_o (o_call Tryz.call18 rfl (isRota_ret a1 c1 l1 pa pc pl ca cc L _ _ R87 _ ⟨(Row.of_owns hT.o1), (hpo.rpl.below hB), (hpo.rplr.below hB), (hpo.rC.below hB), (hpo.rCr.below hB)⟩ hbgx.1 hbgx.2.1 hbgx.2.2.1 hR87 hRr87 hRs.1 hRs.2) rfl ?_)))))))
                rintro _ w100 ⟨rfl, hE100⟩
                replace hB := below_ext hB hE100 hsz
                replace hBE := below_ext hBE hE100 hBE.size
                replace hbx := hbx.ext hE100
                replace hbz := hbz.ext hE100
                replace hty_bx := hty_bx.ext hE100
                replace hty_bz := hty_bz.ext hE100
                replace hT := hT.ext hE100
                replace hY := hY.ext hE100
                replace hb74 := hb74.ext hE100
                replace hty_b74 := hty_b74.ext hE100
                replace hLt := hLt.ext hE100
                replace hR87 := hR87.ext hE100
                replace hRr87 := hRr87.ext hE100
                replace hsz := Nat.le_trans hsz hE100.size
                refine l_q (q_not rfl rfl) (l_q (qmb rfl rfl) ?_)
                have hk101 : (!(isRB l1 pl.length (R87.map (·.xs)))) = false := by rw [isRB_iff.2 hI]; rfl
                refine l_part 192 rfl (fun hx => absurd (hk101.symm.trans hx) (by decide)) (fun _ => (l_q (qmi rfl rfl) (l_q (q_neq rfl rfl rfl) (l_q (q_pick_f (v := .bool _) rfl rfl rfl) (l_q (qmb rfl rfl) ?_)))))
                have hk102 : (!decide (((bestR l2 pl L).2.2) = 0)) = false := by rw [hy0]; rfl
                refine l_part 196 rfl (fun hx => absurd (hk102.symm.trans hx) (by decide)) (fun _ => (l_q (qmi rfl rfl) (l_q (qmi rfl rfl) (l_q (q_gtr rfl rfl rfl) (l_q (q_pick_f (v := .bool _) rfl rfl rfl) (l_nil (r_forget [(4, .int _ _), (14, .pointer _), (23, .slice _ _ _), (200, .bool _)] ⟨rfl, rfl, rfl, rfl, trivial⟩ (fun e103 => ?_))))))))
                have hk104 : (decide (((bestR l1 pl L).2.1) < ((bestR l2 pl L).2.1))) = false := decide_eq_false (by omega)
                refine r_cond_f ((congrArg Value.bool hk104 : Value.bool _ = _)) (r_skip (r_seq (r_region' (l_q (qmi rfl rfl) (l_q (q_toInt Tryz.underlying5 Tryz.underlying3 rfl (by omega) rfl) (l_q (q_fieldAddr (o' := 2) rfl fld33_2 rfl) (l_q (q_load Tryz.isAgg31 rfl ((hbx.has (o := 2) rfl)) rfl) (l_q (q_len rfl Tryz.underlying31 rfl rfl) (l_q (q_add rfl rfl (by omega) rfl) (l_q (q_rem rfl rfl (by omega) rfl) (l_q (qai rfl rfl) (l_nil (r_seq ?_)))))))))))))
                obtain ⟨cN, hcN⟩ : ∃ cN : Nat, wh % ((L.length : Int) + 1) = (cN : Int) := ⟨_, (Int.toNat_of_nonneg hm1).symm⟩
                refine r_forget [(4, .int _ _), (14, .pointer _), (23, .slice _ _ _), (29, vint (cN : Int)), (200, .bool _), (201, .int _ _), (202, .int _ _), (203, .pointer _), (204, .slice _ _ _), (205, .int _ _), (206, .int _ _), (207, .int _ _)] ⟨rfl, rfl, rfl, vint_eq hcN, rfl, rfl, rfl, rfl, rfl, rfl, rfl, rfl, trivial⟩ (fun e105 => (r_region' (l_q (q_load_agg (n := 3) Tryz.isAgg33 Tryz.sizeOf33 rfl ((hbx.cells' (cs' := [_, _, _]) 0 3 rfl)) rfl rfl) (l_q (qms rfl rfl) (l_q (qmi rfl rfl) (l_o (o_call Tryz.call19 rfl (fails10_ret a1 c1 l1 pa pc pl ca cc L _ _ R87 cN _ ⟨(Row.of_owns hT.o1), (hpo.rpl.below hB), (hpo.rplr.below hB), (hpo.rC.below hB), (hpo.rCr.below hB)⟩ hokx hR87 hRr87 hRs.1 hRs.2 (by omega) (plan_on hp) (by omega)) rfl ?_)))))))
                rintro _ w106 ⟨rfl, hE106⟩
                replace hB := below_ext hB hE106 hsz
                replace hBE := below_ext hBE hE106 hBE.size
                replace hbx := hbx.ext hE106
                replace hbz := hbz.ext hE106
                replace hty_bx := hty_bx.ext hE106
                replace hty_bz := hty_bz.ext hE106
                replace hT := hT.ext hE106
                replace hY := hY.ext hE106
                replace hb74 := hb74.ext hE106
                replace hty_b74 := hty_b74.ext hE106
                replace hLt := hLt.ext hE106
                replace hsz := Nat.le_trans hsz hE106.size
                refine l_q (q_lss rfl rfl rfl) (l_q (qmb rfl rfl) ?_)
                have hk107 : (decide ((failX l1 (R87.map (·.xs)) (L.map (·.xs)) cN) < 0)) = true := by rw [safe_fail hsf (by rw [List.length_map]; omega)]; decide
                refine l_part 213 rfl (fun _ => ?_) (fun hx => absurd (hk107.symm.trans hx) (by decide))
                refine l_o (o_call Tryz.call8 rfl (manned_ret _) rfl ?_)
                rintro _ w108 ⟨rfl, hE108⟩
                replace hB := below_ext hB hE108 hsz
                replace hBE := below_ext hBE hE108 hBE.size
                replace hbx := hbx.ext hE108
                replace hbz := hbz.ext hE108
                replace hty_bx := hty_bx.ext hE108
                replace hty_bz := hty_bz.ext hE108
                replace hT := hT.ext hE108
                replace hY := hY.ext hE108
                replace hb74 := hb74.ext hE108
                replace hty_b74 := hty_b74.ext hE108
                replace hLt := hLt.ext hE108
                replace hsz := Nat.le_trans hsz hE108.size
                refine l_q (q_pick_t (v := .bool _) rfl rfl rfl) (l_q (qab rfl rfl) (l_nil (r_forget [(10, .bool _)] ⟨rfl, trivial⟩ (fun e109 => (r_ret_ (vs := [.bool _]) rfl Tryz.func3 rfl (.nil _) ⟨rfl, trivial⟩ ?_)))))
                exact ⟨rfl, Ext.of_below hB⟩
            · intro hj77
              have hszR : w.heap.size ≤ w75.heap.size := hsz
              have hszW : w75.heap.size ≤ w75.heap.size := Nat.le_refl _
              have hltR_b1 := (hb1.ext (Ext.of_below hBE)).lt
              have hltR_b2 := (hb2.ext (Ext.of_below hBE)).lt
              have hltR_b3 := (hb3.ext (Ext.of_below hBE)).lt
              have hltR_bx := hbx.lt
              have hltR_bz := hbz.lt
              have hltR_b74 := hb74.lt
              have hT1 := fun g hg => (hT.o1.lt g hg).2
              have hT2 := fun g hg => (hT.o2.lt g hg).2
              have hszB17 := hBE.size
              have hltY7 := row_lows hY
              refine r_draw3 (Below.refl w75.heap.size) (fun _ _ _ h1 h2 => h1.trans h2) (.op 0 (.op 3 (.op 4 (.op 7 (.op 10 (.fork 6 (.fork 2 (.op 1 (.op 5 (.op 8 (.op 9 (.op 11 (.op 12 (.op 13 (.op 14 (.op 15 (.op 16 (.op 17 (.op 18 (.op 19 (.op 20 (.op 21 (.done)))))))))))))))) (.op 1 (.op 2 (.op 5 (.op 8 (.op 9 (.op 11 (.op 12 (.op 13 (.op 14 (.op 15 (.op 16 (.op 17 (.op 18 (.op 19 (.op 20 (.op 21 (.done)))))))))))))))))) (.fork 2 (.fork 6 (.op 1 (.op 5 (.op 8 (.op 9 (.op 11 (.op 12 (.op 13 (.op 14 (.op 15 (.op 16 (.op 17 (.op 18 (.op 19 (.op 20 (.op 21 (.done)))))))))))))))) (.op 1 (.fork 6 (.op 5 (.op 8 (.op 9 (.op 11 (.op 12 (.op 13 (.op 14 (.op 15 (.op 16 (.op 17 (.op 18 (.op 19 (.op 20 (.op 21 (.done))))))))))))))) (.op 5 (.op 6 (.op 8 (.op 9 (.op 11 (.op 12 (.op 13 (.op 14 (.op 15 (.op 16 (.op 17 (.op 18 (.op 19 (.op 20 (.op 21 (.done))))))))))))))))))) (.op 1 (.fork 6 (.op 2 (.op 5 (.op 8 (.op 9 (.op 11 (.op 12 (.op 13 (.op 14 (.op 15 (.op 16 (.op 17 (.op 18 (.op 19 (.op 20 (.op 21 (.done)))))))))))))))) (.op 2 (.fork 6 (.op 5 (.op 8 (.op 9 (.op 11 (.op 12 (.op 13 (.op 14 (.op 15 (.op 16 (.op 17 (.op 18 (.op 19 (.op 20 (.op 21 (.done))))))))))))))) (.op 5 (.op 6 (.op 8 (.op 9 (.op 11 (.op 12 (.op 13 (.op 14 (.op 15 (.op 16 (.op 17 (.op 18 (.op 19 (.op 20 (.op 21 (.done))))))))))))))))))))))))))) [1, 2, 5, 6, 8, 11, 12, 1012] 40 (by kernel_rfl) (by kernel_rfl) ?_
              intro w110 _ hE110
              replace hB := below_ext hB hE110 hsz
              replace hBE := below_ext hBE hE110 hBE.size
              replace hbx := hbx.ext hE110
              replace hbz := hbz.ext hE110
              replace hty_bx := hty_bx.ext hE110
              replace hty_bz := hty_bz.ext hE110
              replace hT := hT.ext hE110
              replace hY := hY.ext hE110
              replace hb74 := hb74.ext hE110
              replace hty_b74 := hty_b74.ext hE110
              replace hszW := Nat.le_trans hszW hE110.size
              replace hsz := Nat.le_trans hsz hE110.size
              refine m_q3 rfl rfl (fun w' hC' => q_load_agg (n := 5) Tryz.isAgg26 Tryz.sizeOf26 rfl ((((hb1.ext (Ext.of_below hBE)).keep (hC'.block _ hltR_b1)).cells' (cs' := [_, _, _, _, _]) 0 5 rfl)) rfl rfl) (m_q3 rfl rfl (fun w' hC' => q_fieldAddr (o' := 0) rfl fld29_0 rfl) (m_q3 rfl rfl (fun w' hC' => q_load Tryz.isAgg27 rfl ((((hb2.ext (Ext.of_below hBE)).keep (hC'.block _ hltR_b2)).has (o := 0) rfl)) rfl) (m_q3 rfl rfl (fun w' hC' => qms rfl rfl) (m_q3 rfl rfl (fun w' hC' => q_load_agg (n := 2) Tryz.isAgg52 Tryz.sizeOf52 rfl (((hb74.keep (hC'.block _ hltR_b74)).cells' (cs' := [_, _]) 0 2 rfl)) rfl rfl) (m_fork3 ?_ ?_)))))
              ·
               have hbl_b1 := (hb1.ext (Ext.of_below hBE)).lt
               have hbl_b2 := (hb2.ext (Ext.of_below hBE)).lt
               have hbl_b3 := (hb3.ext (Ext.of_below hBE)).lt
               have hbl_bx := hbx.lt
               have hbl_bz := hbz.lt
               have hbl_b74 := hb74.lt
               have hszf111 := hBE.size
               refine m_o3 rfl rfl (o_buildSlice (el := 3) (cs := []) Tryz.underlying27 el3 (by decide) (by kernel_rfl) rfl (by decide) rfl ?_)
               intro b112 w112 hzl112 hzr112 _ hb112 hE112 ho112
               refine ⟨(below_ext_of hE112 hszW), ?_⟩
               have hne_b1_b112 : b1 ≠ b112 := by have := (hb1.ext (Ext.of_below hBE)).lt; omega
               have hne_b2_b112 : b2 ≠ b112 := by have := (hb2.ext (Ext.of_below hBE)).lt; omega
               have hne_b3_b112 : b3 ≠ b112 := by have := (hb3.ext (Ext.of_below hBE)).lt; omega
               have hne_bx_b112 : bx ≠ b112 := by have := hbx.lt; omega
               have hne_bz_b112 : bz ≠ b112 := by have := hbz.lt; omega
               have hne_b74_b112 : b74 ≠ b112 := by have := hb74.lt; omega
               have hbs_b112 : w.heap.size ≤ b112 := Nat.le_trans hsz hzl112
               have hWp_b112 := hszW
               have hbW_b112 := Nat.le_trans hszW hzl112
               replace hB := below_ext hB hE112 hsz
               replace hBE := below_ext hBE hE112 hBE.size
               replace hbx := hbx.ext hE112
               replace hbz := hbz.ext hE112
               replace hty_bx := hty_bx.ext hE112
               replace hty_bz := hty_bz.ext hE112
               replace hT := hT.ext hE112
               replace hY := hY.ext hE112
               replace hb74 := hb74.ext hE112
               replace hty_b74 := hty_b74.ext hE112
               replace hszW := Nat.le_trans hszW hE112.size
               replace hsz := Nat.le_trans hsz hE112.size
               replace ho112 := own_mono ho112 (show w75.heap.size ≤ _ by omega)
               refine m_fork3 ?_ ?_
               ·
                have hbl_b1 := (hb1.ext (Ext.of_below hBE)).lt
                have hbl_b2 := (hb2.ext (Ext.of_below hBE)).lt
                have hbl_b3 := (hb3.ext (Ext.of_below hBE)).lt
                have hbl_bx := hbx.lt
                have hbl_bz := hbz.lt
                have hbl_b74 := hb74.lt
                have hszf113 := hBE.size
                have hbo_b112 := (ho112.lt b112 rfl).2
                refine m_o3 rfl rfl (o_buildSlice (el := 3) (cs := []) Tryz.underlying27 el3 (by decide) (by kernel_rfl) rfl (by decide) rfl ?_)
                intro b114 w114 hzl114 hzr114 _ hb114 hE114 ho114
                refine ⟨(below_ext_of hE114 hszW), ?_⟩
                have hne_b1_b114 : b1 ≠ b114 := by have := (hb1.ext (Ext.of_below hBE)).lt; omega
                have hne_b2_b114 : b2 ≠ b114 := by have := (hb2.ext (Ext.of_below hBE)).lt; omega
                have hne_b3_b114 : b3 ≠ b114 := by have := (hb3.ext (Ext.of_below hBE)).lt; omega
                have hne_bx_b114 : bx ≠ b114 := by have := hbx.lt; omega
                have hne_bz_b114 : bz ≠ b114 := by have := hbz.lt; omega
                have hne_b74_b114 : b74 ≠ b114 := by have := hb74.lt; omega
                have hno_ho112_b114 : ∀ g, (Value.slice (some ⟨b112, 0, none⟩) 0 0).ownBlock = some g → g ≠ b114 := fun g hg => by have := (ho112.lt g hg).2; omega
                have hbs_b114 : w.heap.size ≤ b114 := Nat.le_trans hsz hzl114
                have hWp_b114 := hszW
                have hbW_b114 := Nat.le_trans hszW hzl114
                replace hB := below_ext hB hE114 hsz
                replace hBE := below_ext hBE hE114 hBE.size
                replace hbx := hbx.ext hE114
                replace hbz := hbz.ext hE114
                replace hty_bx := hty_bx.ext hE114
                replace hty_bz := hty_bz.ext hE114
                replace hT := hT.ext hE114
                replace hY := hY.ext hE114
                replace hb74 := hb74.ext hE114
                replace hty_b74 := hty_b74.ext hE114
                replace hszW := Nat.le_trans hszW hE114.size
                replace ho112 := own_ext ho112 hE114
                replace hsz := Nat.le_trans hsz hE114.size
                replace ho114 := own_mono ho114 (show w75.heap.size ≤ _ by omega)
                refine m_o3 rfl rfl (o_call Tryz.call10 rfl (store8_ret cap can s0 s1 sa sc ns _ (hns.below hB) hsl) rfl ?_)
                rintro _ w115 ⟨oa115, oc115, rfl, hst115, hE115⟩
                replace hst115 := own_mono hst115 (show w75.heap.size ≤ _ by omega)
                refine ⟨(below_ext_of hE115 hszW), ?_⟩
                replace hB := below_ext hB hE115 hsz
                replace hBE := below_ext hBE hE115 hBE.size
                replace hbx := hbx.ext hE115
                replace hbz := hbz.ext hE115
                replace hty_bx := hty_bx.ext hE115
                replace hty_bz := hty_bz.ext hE115
                replace hT := hT.ext hE115
                replace hY := hY.ext hE115
                replace hb74 := hb74.ext hE115
                replace hty_b74 := hty_b74.ext hE115
                replace hszW := Nat.le_trans hszW hE115.size
                replace ho112 := own_ext ho112 hE115
                replace ho114 := own_ext ho114 hE115
                replace hsz := Nat.le_trans hsz hE115.size
                have hbl_b1 := (hb1.ext (Ext.of_below hBE)).lt
                have hbl_b2 := (hb2.ext (Ext.of_below hBE)).lt
                have hbl_b3 := (hb3.ext (Ext.of_below hBE)).lt
                have hbl_bx := hbx.lt
                have hbl_bz := hbz.lt
                have hbl_b74 := hb74.lt
                have hszf116 := hBE.size
                have hbo_b112 := (ho112.lt b112 rfl).2
                have hbo_b114 := (ho114.lt b114 rfl).2
                have hbq_b112 := (ho112.lt b112 rfl).2
                refine m_o3 rfl rfl (o_append_at (f := vint) [] (cs) Tryz.underlying27 el3 rfl rfl ho114 rfl (hcs.below hB) (by omega) (fun _ => rfl) (by (try simp only [List.length_append, List.length_cons, List.length_nil]); omega) hszW rfl ?_)
                intro aq117 cq117 w117 hz117 ho117 hG117 hq117
                refine ⟨(below_own_of hG117 ho114 (by omega) hszW), ?_⟩
                have hno_ho117_b112 := ne_of_hq (b6 := b112) hq117 (rfl : _ = some b114) (by omega) (by omega)
                replace hB := below_own hB hG117 ho114 (by omega) hsz
                replace hsz := Nat.le_trans hsz hG117.size
                replace hBE := below_own hBE hG117 ho114 (by first | exact Nat.le_refl _ | omega) hBE.size
                replace hbx := hbx.step hG117 (own_ty_ne ho114 hty_bx (by decide))
                replace hbz := hbz.step hG117 (own_ty_ne ho114 hty_bz (by decide))
                replace hT := TwoI.low hT hT1 hT2 ho114 hG117
                replace hY := row_lowv hY hltY7 ho114 hG117
                replace hb74 := hb74.step hG117 (own_ty_ne ho114 hty_b74 (by decide))
                replace hszW := Nat.le_trans hszW hG117.size
                replace ho112 := own_updne (b := b114) ho112 hG117 (fun g hg => by have e : b112 = g := (by simpa [Value.ownBlock] using hg); omega)
                replace hst115 := own_kept hst115 ho114 (by decide) hG117
                replace hty_bx := TyAt.own hty_bx ho114 hG117 (by decide)
                replace hty_bz := TyAt.own hty_bz ho114 hG117 (by decide)
                replace hty_b74 := TyAt.own hty_b74 ho114 hG117 (by decide)
                have hbl_b1 := (hb1.ext (Ext.of_below hBE)).lt
                have hbl_b2 := (hb2.ext (Ext.of_below hBE)).lt
                have hbl_b3 := (hb3.ext (Ext.of_below hBE)).lt
                have hbl_bx := hbx.lt
                have hbl_bz := hbz.lt
                have hbl_b74 := hb74.lt
                have hszf118 := hBE.size
                have hbo_b112 := (ho112.lt b112 rfl).2
                refine m_o3 rfl rfl (o_append_map (f := vint) ([]) (X) Tryz.underlying27 el3 rfl rfl ho112 rfl (hX.ext (Ext.of_below hBE)) (fun _ => rfl) (by (try simp only [List.length_append, List.length_cons, List.length_nil, List.length_take, List.length_drop, List.length_replicate]); omega) (by omega) rfl ?_)
                intro a119 c119 w119 hz119 ho119 hG119
                refine ⟨(below_own_of hG119 ho112 (by omega) hszW), ?_⟩
                replace hB := below_own hB hG119 ho112 (by omega) hsz
                replace hsz := Nat.le_trans hsz hG119.size
                replace hBE := below_own hBE hG119 ho112 (by first | exact Nat.le_refl _ | omega) hBE.size
                replace hbx := hbx.step hG119 (own_ty_ne ho112 hty_bx (by decide))
                replace hbz := hbz.step hG119 (own_ty_ne ho112 hty_bz (by decide))
                replace hT := TwoI.low hT hT1 hT2 ho112 hG119
                replace hY := row_lowv hY hltY7 ho112 hG119
                replace hb74 := hb74.step hG119 (own_ty_ne ho112 hty_b74 (by decide))
                replace hszW := Nat.le_trans hszW hG119.size
                replace hst115 := own_kept hst115 ho112 (by decide) hG119
                replace ho117 := own_updne (b := b112) ho117 hG119 hno_ho117_b112
                replace hty_bx := TyAt.own hty_bx ho112 hG119 (by decide)
                replace hty_bz := TyAt.own hty_bz ho112 hG119 (by decide)
                replace hty_b74 := TyAt.own hty_b74 ho112 hG119 (by decide)
                refine m_q3 rfl rfl (fun w' hC' => q_build (v := .agg ⟨[.slice aq117 (([] ++ cs).length) cq117, .slice a119 (([] ++ X).length) c119]⟩) (fun w => by kernel_rfl) rfl) (m_o3 rfl rfl (o_call Tryz.call15 rfl (truth8_ret st0 ta tc Y _ hY hYl) rfl ?_))
                rintro _ w120 ⟨za, zc, rfl, hZ, hE120⟩
                refine ⟨(below_ext_of hE120 hszW), ?_⟩
                replace hB := below_ext hB hE120 hsz
                replace hBE := below_ext hBE hE120 hBE.size
                replace hbx := hbx.ext hE120
                replace hbz := hbz.ext hE120
                replace hty_bx := hty_bx.ext hE120
                replace hty_bz := hty_bz.ext hE120
                replace hT := hT.ext hE120
                replace hY := hY.ext hE120
                replace hb74 := hb74.ext hE120
                replace hty_b74 := hty_b74.ext hE120
                replace hszW := Nat.le_trans hszW hE120.size
                replace hst115 := own_ext hst115 hE120
                replace ho117 := own_ext ho117 hE120
                replace ho119 := own_ext ho119 hE120
                replace hsz := Nat.le_trans hsz hE120.size
                refine m_last3 rfl rfl rfl (o_call Tryz.call14 rfl (play_ret cap can s0 s1 oa115 oc115 ns aq117 cq117 cs a119 c119 X st0 za zc Y oil lt _ (Row.of_owns hst115) (Row.of_owns ho117) (Row.of_owns ho119) hZ hos hcn hwp hbp hstr hlp) rfl ?_)
                rintro _ w121 ⟨p1, q1, r1, p2, q2, r2, la, lc, rfl, hLt, hEp⟩
                replace hB := below_ext hB hEp hsz
                replace hBE := below_ext hBE hEp hBE.size
                replace hbx := hbx.ext hEp
                replace hbz := hbz.ext hEp
                replace hty_bx := hty_bx.ext hEp
                replace hty_bz := hty_bz.ext hEp
                replace hT := hT.ext hEp
                replace hY := hY.ext hEp
                replace hb74 := hb74.ext hEp
                replace hty_b74 := hty_b74.ext hEp
                replace hszW := Nat.le_trans hszW hEp.size
                replace hZ := hZ.ext hEp
                replace hsz := Nat.le_trans hsz hEp.size
                refine m_q3 rfl rfl (fun w' hC' => q_move (v := .tuple _) rfl rfl) (m_q3 rfl rfl (fun w' hC' => q_extract (vs := [_, _, _, _]) (v := .slice _ _ _) rfl rfl rfl) (m_q3 rfl rfl (fun w' hC' => q_extract (vs := [_, _, _, _]) (v := .slice _ _ _) rfl rfl rfl) (m_q3 rfl rfl (fun w' hC' => q_extract (vs := [_, _, _, _]) (v := .slice _ _ _) rfl rfl rfl) (m_q3 rfl rfl (fun w' hC' => q_extract (vs := [_, _, _, _]) (v := .int _ _) rfl rfl rfl) (m_q3 rfl rfl (fun w' hC' => qas rfl rfl) (m_q3 rfl rfl (fun w' hC' => qas rfl rfl) (m_q3 rfl rfl (fun w' hC' => qas rfl rfl) (m_q3 rfl rfl (fun w' hC' => qai rfl rfl) (m_nil3 (r_forget [(4, .int _ _), (5, .pointer _), (14, .pointer _), (15, .pointer _), (20, .slice _ _ _), (21, .int _ _)] ⟨rfl, rfl, rfl, rfl, rfl, rfl, trivial⟩ (fun e122 => ?_)))))))))))
                exact hj77 (la, lc) _ _ ⟨⟨rfl, rfl, rfl, rfl, rfl, rfl, trivial⟩, hLt, hBE, hbx, hbz, hty_bx, hty_bz, hT, hY, hb74, hty_b74, hsz, hB⟩
               ·
                refine m_o3 rfl rfl (o_call Tryz.call10 rfl (store8_ret cap can s0 s1 sa sc ns _ (hns.below hB) hsl) rfl ?_)
                rintro _ w123 ⟨oa123, oc123, rfl, hst123, hE123⟩
                replace hst123 := own_mono hst123 (show w75.heap.size ≤ _ by omega)
                refine ⟨(below_ext_of hE123 hszW), ?_⟩
                replace hB := below_ext hB hE123 hsz
                replace hBE := below_ext hBE hE123 hBE.size
                replace hbx := hbx.ext hE123
                replace hbz := hbz.ext hE123
                replace hty_bx := hty_bx.ext hE123
                replace hty_bz := hty_bz.ext hE123
                replace hT := hT.ext hE123
                replace hY := hY.ext hE123
                replace hb74 := hb74.ext hE123
                replace hty_b74 := hty_b74.ext hE123
                replace hszW := Nat.le_trans hszW hE123.size
                replace ho112 := own_ext ho112 hE123
                replace hsz := Nat.le_trans hsz hE123.size
                have hbl_b1 := (hb1.ext (Ext.of_below hBE)).lt
                have hbl_b2 := (hb2.ext (Ext.of_below hBE)).lt
                have hbl_b3 := (hb3.ext (Ext.of_below hBE)).lt
                have hbl_bx := hbx.lt
                have hbl_bz := hbz.lt
                have hbl_b74 := hb74.lt
                have hszf124 := hBE.size
                have hbo_b112 := (ho112.lt b112 rfl).2
                refine m_o3 rfl rfl (o_buildSlice (el := 3) (cs := []) Tryz.underlying27 el3 (by decide) (by kernel_rfl) rfl (by decide) rfl ?_)
                intro b125 w125 hzl125 hzr125 _ hb125 hE125 ho125
                refine ⟨(below_ext_of hE125 hszW), ?_⟩
                have hne_b1_b125 : b1 ≠ b125 := by have := (hb1.ext (Ext.of_below hBE)).lt; omega
                have hne_b2_b125 : b2 ≠ b125 := by have := (hb2.ext (Ext.of_below hBE)).lt; omega
                have hne_b3_b125 : b3 ≠ b125 := by have := (hb3.ext (Ext.of_below hBE)).lt; omega
                have hne_bx_b125 : bx ≠ b125 := by have := hbx.lt; omega
                have hne_bz_b125 : bz ≠ b125 := by have := hbz.lt; omega
                have hne_b74_b125 : b74 ≠ b125 := by have := hb74.lt; omega
                have hno_ho112_b125 : ∀ g, (Value.slice (some ⟨b112, 0, none⟩) 0 0).ownBlock = some g → g ≠ b125 := fun g hg => by have := (ho112.lt g hg).2; omega
                have hno_hst123_b125 : ∀ g, (Value.slice oa123 ns.length oc123).ownBlock = some g → g ≠ b125 := fun g hg => by have := (hst123.lt g hg).2; omega
                have hbs_b125 : w.heap.size ≤ b125 := Nat.le_trans hsz hzl125
                have hWp_b125 := hszW
                have hbW_b125 := Nat.le_trans hszW hzl125
                replace hB := below_ext hB hE125 hsz
                replace hBE := below_ext hBE hE125 hBE.size
                replace hbx := hbx.ext hE125
                replace hbz := hbz.ext hE125
                replace hty_bx := hty_bx.ext hE125
                replace hty_bz := hty_bz.ext hE125
                replace hT := hT.ext hE125
                replace hY := hY.ext hE125
                replace hb74 := hb74.ext hE125
                replace hty_b74 := hty_b74.ext hE125
                replace hszW := Nat.le_trans hszW hE125.size
                replace ho112 := own_ext ho112 hE125
                replace hst123 := own_ext hst123 hE125
                replace hsz := Nat.le_trans hsz hE125.size
                replace ho125 := own_mono ho125 (show w75.heap.size ≤ _ by omega)
                have hbl_b1 := (hb1.ext (Ext.of_below hBE)).lt
                have hbl_b2 := (hb2.ext (Ext.of_below hBE)).lt
                have hbl_b3 := (hb3.ext (Ext.of_below hBE)).lt
                have hbl_bx := hbx.lt
                have hbl_bz := hbz.lt
                have hbl_b74 := hb74.lt
                have hszf126 := hBE.size
                have hbo_b112 := (ho112.lt b112 rfl).2
                have hbo_b125 := (ho125.lt b125 rfl).2
                have hbq_b112 := (ho112.lt b112 rfl).2
                refine m_o3 rfl rfl (o_append_at (f := vint) [] (cs) Tryz.underlying27 el3 rfl rfl ho125 rfl (hcs.below hB) (by omega) (fun _ => rfl) (by (try simp only [List.length_append, List.length_cons, List.length_nil]); omega) hszW rfl ?_)
                intro aq127 cq127 w127 hz127 ho127 hG127 hq127
                refine ⟨(below_own_of hG127 ho125 (by omega) hszW), ?_⟩
                have hno_ho127_b112 := ne_of_hq (b6 := b112) hq127 (rfl : _ = some b125) (by omega) (by omega)
                replace hB := below_own hB hG127 ho125 (by omega) hsz
                replace hsz := Nat.le_trans hsz hG127.size
                replace hBE := below_own hBE hG127 ho125 (by first | exact Nat.le_refl _ | omega) hBE.size
                replace hbx := hbx.step hG127 (own_ty_ne ho125 hty_bx (by decide))
                replace hbz := hbz.step hG127 (own_ty_ne ho125 hty_bz (by decide))
                replace hT := TwoI.low hT hT1 hT2 ho125 hG127
                replace hY := row_lowv hY hltY7 ho125 hG127
                replace hb74 := hb74.step hG127 (own_ty_ne ho125 hty_b74 (by decide))
                replace hszW := Nat.le_trans hszW hG127.size
                replace ho112 := own_updne (b := b125) ho112 hG127 (fun g hg => by have e : b112 = g := (by simpa [Value.ownBlock] using hg); omega)
                replace hst123 := own_kept hst123 ho125 (by decide) hG127
                replace hty_bx := TyAt.own hty_bx ho125 hG127 (by decide)
                replace hty_bz := TyAt.own hty_bz ho125 hG127 (by decide)
                replace hty_b74 := TyAt.own hty_b74 ho125 hG127 (by decide)
                have hbl_b1 := (hb1.ext (Ext.of_below hBE)).lt
                have hbl_b2 := (hb2.ext (Ext.of_below hBE)).lt
                have hbl_b3 := (hb3.ext (Ext.of_below hBE)).lt
                have hbl_bx := hbx.lt
                have hbl_bz := hbz.lt
                have hbl_b74 := hb74.lt
                have hszf128 := hBE.size
                have hbo_b112 := (ho112.lt b112 rfl).2
                refine m_o3 rfl rfl (o_append_map (f := vint) ([]) (X) Tryz.underlying27 el3 rfl rfl ho112 rfl (hX.ext (Ext.of_below hBE)) (fun _ => rfl) (by (try simp only [List.length_append, List.length_cons, List.length_nil, List.length_take, List.length_drop, List.length_replicate]); omega) (by omega) rfl ?_)
                intro a129 c129 w129 hz129 ho129 hG129
                refine ⟨(below_own_of hG129 ho112 (by omega) hszW), ?_⟩
                replace hB := below_own hB hG129 ho112 (by omega) hsz
                replace hsz := Nat.le_trans hsz hG129.size
                replace hBE := below_own hBE hG129 ho112 (by first | exact Nat.le_refl _ | omega) hBE.size
                replace hbx := hbx.step hG129 (own_ty_ne ho112 hty_bx (by decide))
                replace hbz := hbz.step hG129 (own_ty_ne ho112 hty_bz (by decide))
                replace hT := TwoI.low hT hT1 hT2 ho112 hG129
                replace hY := row_lowv hY hltY7 ho112 hG129
                replace hb74 := hb74.step hG129 (own_ty_ne ho112 hty_b74 (by decide))
                replace hszW := Nat.le_trans hszW hG129.size
                replace hst123 := own_kept hst123 ho112 (by decide) hG129
                replace ho127 := own_updne (b := b112) ho127 hG129 hno_ho127_b112
                replace hty_bx := TyAt.own hty_bx ho112 hG129 (by decide)
                replace hty_bz := TyAt.own hty_bz ho112 hG129 (by decide)
                replace hty_b74 := TyAt.own hty_b74 ho112 hG129 (by decide)
                refine m_q3 rfl rfl (fun w' hC' => q_build (v := .agg ⟨[.slice aq127 (([] ++ cs).length) cq127, .slice a129 (([] ++ X).length) c129]⟩) (fun w => by kernel_rfl) rfl) (m_o3 rfl rfl (o_call Tryz.call15 rfl (truth8_ret st0 ta tc Y _ hY hYl) rfl ?_))
                rintro _ w130 ⟨za, zc, rfl, hZ, hE130⟩
                refine ⟨(below_ext_of hE130 hszW), ?_⟩
                replace hB := below_ext hB hE130 hsz
                replace hBE := below_ext hBE hE130 hBE.size
                replace hbx := hbx.ext hE130
                replace hbz := hbz.ext hE130
                replace hty_bx := hty_bx.ext hE130
                replace hty_bz := hty_bz.ext hE130
                replace hT := hT.ext hE130
                replace hY := hY.ext hE130
                replace hb74 := hb74.ext hE130
                replace hty_b74 := hty_b74.ext hE130
                replace hszW := Nat.le_trans hszW hE130.size
                replace hst123 := own_ext hst123 hE130
                replace ho127 := own_ext ho127 hE130
                replace ho129 := own_ext ho129 hE130
                replace hsz := Nat.le_trans hsz hE130.size
                refine m_last3 rfl rfl rfl (o_call Tryz.call14 rfl (play_ret cap can s0 s1 oa123 oc123 ns aq127 cq127 cs a129 c129 X st0 za zc Y oil lt _ (Row.of_owns hst123) (Row.of_owns ho127) (Row.of_owns ho129) hZ hos hcn hwp hbp hstr hlp) rfl ?_)
                rintro _ w131 ⟨p1, q1, r1, p2, q2, r2, la, lc, rfl, hLt, hEp⟩
                replace hB := below_ext hB hEp hsz
                replace hBE := below_ext hBE hEp hBE.size
                replace hbx := hbx.ext hEp
                replace hbz := hbz.ext hEp
                replace hty_bx := hty_bx.ext hEp
                replace hty_bz := hty_bz.ext hEp
                replace hT := hT.ext hEp
                replace hY := hY.ext hEp
                replace hb74 := hb74.ext hEp
                replace hty_b74 := hty_b74.ext hEp
                replace hszW := Nat.le_trans hszW hEp.size
                replace hZ := hZ.ext hEp
                replace hsz := Nat.le_trans hsz hEp.size
                refine m_q3 rfl rfl (fun w' hC' => q_move (v := .tuple _) rfl rfl) (m_q3 rfl rfl (fun w' hC' => q_extract (vs := [_, _, _, _]) (v := .slice _ _ _) rfl rfl rfl) (m_q3 rfl rfl (fun w' hC' => q_extract (vs := [_, _, _, _]) (v := .slice _ _ _) rfl rfl rfl) (m_q3 rfl rfl (fun w' hC' => q_extract (vs := [_, _, _, _]) (v := .slice _ _ _) rfl rfl rfl) (m_q3 rfl rfl (fun w' hC' => q_extract (vs := [_, _, _, _]) (v := .int _ _) rfl rfl rfl) (m_q3 rfl rfl (fun w' hC' => qas rfl rfl) (m_q3 rfl rfl (fun w' hC' => qas rfl rfl) (m_q3 rfl rfl (fun w' hC' => qas rfl rfl) (m_q3 rfl rfl (fun w' hC' => qai rfl rfl) (m_nil3 (r_forget [(4, .int _ _), (5, .pointer _), (14, .pointer _), (15, .pointer _), (20, .slice _ _ _), (21, .int _ _)] ⟨rfl, rfl, rfl, rfl, rfl, rfl, trivial⟩ (fun e132 => ?_)))))))))))
                exact hj77 (la, lc) _ _ ⟨⟨rfl, rfl, rfl, rfl, rfl, rfl, trivial⟩, hLt, hBE, hbx, hbz, hty_bx, hty_bz, hT, hY, hb74, hty_b74, hsz, hB⟩
              ·
               refine m_fork3 ?_ ?_
               ·
                have hbl_b1 := (hb1.ext (Ext.of_below hBE)).lt
                have hbl_b2 := (hb2.ext (Ext.of_below hBE)).lt
                have hbl_b3 := (hb3.ext (Ext.of_below hBE)).lt
                have hbl_bx := hbx.lt
                have hbl_bz := hbz.lt
                have hbl_b74 := hb74.lt
                have hszf133 := hBE.size
                refine m_o3 rfl rfl (o_buildSlice (el := 3) (cs := []) Tryz.underlying27 el3 (by decide) (by kernel_rfl) rfl (by decide) rfl ?_)
                intro b134 w134 hzl134 hzr134 _ hb134 hE134 ho134
                refine ⟨(below_ext_of hE134 hszW), ?_⟩
                have hne_b1_b134 : b1 ≠ b134 := by have := (hb1.ext (Ext.of_below hBE)).lt; omega
                have hne_b2_b134 : b2 ≠ b134 := by have := (hb2.ext (Ext.of_below hBE)).lt; omega
                have hne_b3_b134 : b3 ≠ b134 := by have := (hb3.ext (Ext.of_below hBE)).lt; omega
                have hne_bx_b134 : bx ≠ b134 := by have := hbx.lt; omega
                have hne_bz_b134 : bz ≠ b134 := by have := hbz.lt; omega
                have hne_b74_b134 : b74 ≠ b134 := by have := hb74.lt; omega
                have hbs_b134 : w.heap.size ≤ b134 := Nat.le_trans hsz hzl134
                have hWp_b134 := hszW
                have hbW_b134 := Nat.le_trans hszW hzl134
                replace hB := below_ext hB hE134 hsz
                replace hBE := below_ext hBE hE134 hBE.size
                replace hbx := hbx.ext hE134
                replace hbz := hbz.ext hE134
                replace hty_bx := hty_bx.ext hE134
                replace hty_bz := hty_bz.ext hE134
                replace hT := hT.ext hE134
                replace hY := hY.ext hE134
                replace hb74 := hb74.ext hE134
                replace hty_b74 := hty_b74.ext hE134
                replace hszW := Nat.le_trans hszW hE134.size
                replace hsz := Nat.le_trans hsz hE134.size
                replace ho134 := own_mono ho134 (show w75.heap.size ≤ _ by omega)
                refine m_fork3 ?_ ?_
                ·
                 have hbl_b1 := (hb1.ext (Ext.of_below hBE)).lt
                 have hbl_b2 := (hb2.ext (Ext.of_below hBE)).lt
                 have hbl_b3 := (hb3.ext (Ext.of_below hBE)).lt
                 have hbl_bx := hbx.lt
                 have hbl_bz := hbz.lt
                 have hbl_b74 := hb74.lt
                 have hszf135 := hBE.size
                 have hbo_b134 := (ho134.lt b134 rfl).2
                 refine m_o3 rfl rfl (o_buildSlice (el := 3) (cs := []) Tryz.underlying27 el3 (by decide) (by kernel_rfl) rfl (by decide) rfl ?_)
                 intro b136 w136 hzl136 hzr136 _ hb136 hE136 ho136
                 refine ⟨(below_ext_of hE136 hszW), ?_⟩
                 have hne_b1_b136 : b1 ≠ b136 := by have := (hb1.ext (Ext.of_below hBE)).lt; omega
                 have hne_b2_b136 : b2 ≠ b136 := by have := (hb2.ext (Ext.of_below hBE)).lt; omega
                 have hne_b3_b136 : b3 ≠ b136 := by have := (hb3.ext (Ext.of_below hBE)).lt; omega
                 have hne_bx_b136 : bx ≠ b136 := by have := hbx.lt; omega
                 have hne_bz_b136 : bz ≠ b136 := by have := hbz.lt; omega
                 have hne_b74_b136 : b74 ≠ b136 := by have := hb74.lt; omega
                 have hno_ho134_b136 : ∀ g, (Value.slice (some ⟨b134, 0, none⟩) 0 0).ownBlock = some g → g ≠ b136 := fun g hg => by have := (ho134.lt g hg).2; omega
                 have hbs_b136 : w.heap.size ≤ b136 := Nat.le_trans hsz hzl136
                 have hWp_b136 := hszW
                 have hbW_b136 := Nat.le_trans hszW hzl136
                 replace hB := below_ext hB hE136 hsz
                 replace hBE := below_ext hBE hE136 hBE.size
                 replace hbx := hbx.ext hE136
                 replace hbz := hbz.ext hE136
                 replace hty_bx := hty_bx.ext hE136
                 replace hty_bz := hty_bz.ext hE136
                 replace hT := hT.ext hE136
                 replace hY := hY.ext hE136
                 replace hb74 := hb74.ext hE136
                 replace hty_b74 := hty_b74.ext hE136
                 replace hszW := Nat.le_trans hszW hE136.size
                 replace ho134 := own_ext ho134 hE136
                 replace hsz := Nat.le_trans hsz hE136.size
                 replace ho136 := own_mono ho136 (show w75.heap.size ≤ _ by omega)
                 refine m_o3 rfl rfl (o_call Tryz.call10 rfl (store8_ret cap can s0 s1 sa sc ns _ (hns.below hB) hsl) rfl ?_)
                 rintro _ w137 ⟨oa137, oc137, rfl, hst137, hE137⟩
                 replace hst137 := own_mono hst137 (show w75.heap.size ≤ _ by omega)
                 refine ⟨(below_ext_of hE137 hszW), ?_⟩
                 replace hB := below_ext hB hE137 hsz
                 replace hBE := below_ext hBE hE137 hBE.size
                 replace hbx := hbx.ext hE137
                 replace hbz := hbz.ext hE137
                 replace hty_bx := hty_bx.ext hE137
                 replace hty_bz := hty_bz.ext hE137
                 replace hT := hT.ext hE137
                 replace hY := hY.ext hE137
                 replace hb74 := hb74.ext hE137
                 replace hty_b74 := hty_b74.ext hE137
                 replace hszW := Nat.le_trans hszW hE137.size
                 replace ho134 := own_ext ho134 hE137
                 replace ho136 := own_ext ho136 hE137
                 replace hsz := Nat.le_trans hsz hE137.size
                 have hbl_b1 := (hb1.ext (Ext.of_below hBE)).lt
                 have hbl_b2 := (hb2.ext (Ext.of_below hBE)).lt
                 have hbl_b3 := (hb3.ext (Ext.of_below hBE)).lt
                 have hbl_bx := hbx.lt
                 have hbl_bz := hbz.lt
                 have hbl_b74 := hb74.lt
                 have hszf138 := hBE.size
                 have hbo_b134 := (ho134.lt b134 rfl).2
                 have hbo_b136 := (ho136.lt b136 rfl).2
                 have hbq_b136 := (ho136.lt b136 rfl).2
                 refine m_o3 rfl rfl (o_append_at (f := vint) [] (cs) Tryz.underlying27 el3 rfl rfl ho134 rfl (hcs.below hB) (by omega) (fun _ => rfl) (by (try simp only [List.length_append, List.length_cons, List.length_nil]); omega) hszW rfl ?_)
                 intro aq139 cq139 w139 hz139 ho139 hG139 hq139
                 refine ⟨(below_own_of hG139 ho134 (by omega) hszW), ?_⟩
                 have hno_ho139_b136 := ne_of_hq (b6 := b136) hq139 (rfl : _ = some b134) (by omega) (by omega)
                 replace hB := below_own hB hG139 ho134 (by omega) hsz
                 replace hsz := Nat.le_trans hsz hG139.size
                 replace hBE := below_own hBE hG139 ho134 (by first | exact Nat.le_refl _ | omega) hBE.size
                 replace hbx := hbx.step hG139 (own_ty_ne ho134 hty_bx (by decide))
                 replace hbz := hbz.step hG139 (own_ty_ne ho134 hty_bz (by decide))
                 replace hT := TwoI.low hT hT1 hT2 ho134 hG139
                 replace hY := row_lowv hY hltY7 ho134 hG139
                 replace hb74 := hb74.step hG139 (own_ty_ne ho134 hty_b74 (by decide))
                 replace hszW := Nat.le_trans hszW hG139.size
                 replace ho136 := own_updne (b := b134) ho136 hG139 (fun g hg => by have e : b136 = g := (by simpa [Value.ownBlock] using hg); omega)
                 replace hst137 := own_kept hst137 ho134 (by decide) hG139
                 replace hty_bx := TyAt.own hty_bx ho134 hG139 (by decide)
                 replace hty_bz := TyAt.own hty_bz ho134 hG139 (by decide)
                 replace hty_b74 := TyAt.own hty_b74 ho134 hG139 (by decide)
                 have hbl_b1 := (hb1.ext (Ext.of_below hBE)).lt
                 have hbl_b2 := (hb2.ext (Ext.of_below hBE)).lt
                 have hbl_b3 := (hb3.ext (Ext.of_below hBE)).lt
                 have hbl_bx := hbx.lt
                 have hbl_bz := hbz.lt
                 have hbl_b74 := hb74.lt
                 have hszf140 := hBE.size
                 have hbo_b136 := (ho136.lt b136 rfl).2
                 refine m_o3 rfl rfl (o_append_map (f := vint) ([]) (X) Tryz.underlying27 el3 rfl rfl ho136 rfl (hX.ext (Ext.of_below hBE)) (fun _ => rfl) (by (try simp only [List.length_append, List.length_cons, List.length_nil, List.length_take, List.length_drop, List.length_replicate]); omega) (by omega) rfl ?_)
                 intro a141 c141 w141 hz141 ho141 hG141
                 refine ⟨(below_own_of hG141 ho136 (by omega) hszW), ?_⟩
                 replace hB := below_own hB hG141 ho136 (by omega) hsz
                 replace hsz := Nat.le_trans hsz hG141.size
                 replace hBE := below_own hBE hG141 ho136 (by first | exact Nat.le_refl _ | omega) hBE.size
                 replace hbx := hbx.step hG141 (own_ty_ne ho136 hty_bx (by decide))
                 replace hbz := hbz.step hG141 (own_ty_ne ho136 hty_bz (by decide))
                 replace hT := TwoI.low hT hT1 hT2 ho136 hG141
                 replace hY := row_lowv hY hltY7 ho136 hG141
                 replace hb74 := hb74.step hG141 (own_ty_ne ho136 hty_b74 (by decide))
                 replace hszW := Nat.le_trans hszW hG141.size
                 replace hst137 := own_kept hst137 ho136 (by decide) hG141
                 replace ho139 := own_updne (b := b136) ho139 hG141 hno_ho139_b136
                 replace hty_bx := TyAt.own hty_bx ho136 hG141 (by decide)
                 replace hty_bz := TyAt.own hty_bz ho136 hG141 (by decide)
                 replace hty_b74 := TyAt.own hty_b74 ho136 hG141 (by decide)
                 refine m_q3 rfl rfl (fun w' hC' => q_build (v := .agg ⟨[.slice aq139 (([] ++ cs).length) cq139, .slice a141 (([] ++ X).length) c141]⟩) (fun w => by kernel_rfl) rfl) (m_o3 rfl rfl (o_call Tryz.call15 rfl (truth8_ret st0 ta tc Y _ hY hYl) rfl ?_))
                 rintro _ w142 ⟨za, zc, rfl, hZ, hE142⟩
                 refine ⟨(below_ext_of hE142 hszW), ?_⟩
                 replace hB := below_ext hB hE142 hsz
                 replace hBE := below_ext hBE hE142 hBE.size
                 replace hbx := hbx.ext hE142
                 replace hbz := hbz.ext hE142
                 replace hty_bx := hty_bx.ext hE142
                 replace hty_bz := hty_bz.ext hE142
                 replace hT := hT.ext hE142
                 replace hY := hY.ext hE142
                 replace hb74 := hb74.ext hE142
                 replace hty_b74 := hty_b74.ext hE142
                 replace hszW := Nat.le_trans hszW hE142.size
                 replace hst137 := own_ext hst137 hE142
                 replace ho139 := own_ext ho139 hE142
                 replace ho141 := own_ext ho141 hE142
                 replace hsz := Nat.le_trans hsz hE142.size
                 refine m_last3 rfl rfl rfl (o_call Tryz.call14 rfl (play_ret cap can s0 s1 oa137 oc137 ns aq139 cq139 cs a141 c141 X st0 za zc Y oil lt _ (Row.of_owns hst137) (Row.of_owns ho139) (Row.of_owns ho141) hZ hos hcn hwp hbp hstr hlp) rfl ?_)
                 rintro _ w143 ⟨p1, q1, r1, p2, q2, r2, la, lc, rfl, hLt, hEp⟩
                 replace hB := below_ext hB hEp hsz
                 replace hBE := below_ext hBE hEp hBE.size
                 replace hbx := hbx.ext hEp
                 replace hbz := hbz.ext hEp
                 replace hty_bx := hty_bx.ext hEp
                 replace hty_bz := hty_bz.ext hEp
                 replace hT := hT.ext hEp
                 replace hY := hY.ext hEp
                 replace hb74 := hb74.ext hEp
                 replace hty_b74 := hty_b74.ext hEp
                 replace hszW := Nat.le_trans hszW hEp.size
                 replace hZ := hZ.ext hEp
                 replace hsz := Nat.le_trans hsz hEp.size
                 refine m_q3 rfl rfl (fun w' hC' => q_move (v := .tuple _) rfl rfl) (m_q3 rfl rfl (fun w' hC' => q_extract (vs := [_, _, _, _]) (v := .slice _ _ _) rfl rfl rfl) (m_q3 rfl rfl (fun w' hC' => q_extract (vs := [_, _, _, _]) (v := .slice _ _ _) rfl rfl rfl) (m_q3 rfl rfl (fun w' hC' => q_extract (vs := [_, _, _, _]) (v := .slice _ _ _) rfl rfl rfl) (m_q3 rfl rfl (fun w' hC' => q_extract (vs := [_, _, _, _]) (v := .int _ _) rfl rfl rfl) (m_q3 rfl rfl (fun w' hC' => qas rfl rfl) (m_q3 rfl rfl (fun w' hC' => qas rfl rfl) (m_q3 rfl rfl (fun w' hC' => qas rfl rfl) (m_q3 rfl rfl (fun w' hC' => qai rfl rfl) (m_nil3 (r_forget [(4, .int _ _), (5, .pointer _), (14, .pointer _), (15, .pointer _), (20, .slice _ _ _), (21, .int _ _)] ⟨rfl, rfl, rfl, rfl, rfl, rfl, trivial⟩ (fun e144 => ?_)))))))))))
                 exact hj77 (la, lc) _ _ ⟨⟨rfl, rfl, rfl, rfl, rfl, rfl, trivial⟩, hLt, hBE, hbx, hbz, hty_bx, hty_bz, hT, hY, hb74, hty_b74, hsz, hB⟩
                ·
                 refine m_o3 rfl rfl (o_call Tryz.call10 rfl (store8_ret cap can s0 s1 sa sc ns _ (hns.below hB) hsl) rfl ?_)
                 rintro _ w145 ⟨oa145, oc145, rfl, hst145, hE145⟩
                 replace hst145 := own_mono hst145 (show w75.heap.size ≤ _ by omega)
                 refine ⟨(below_ext_of hE145 hszW), ?_⟩
                 replace hB := below_ext hB hE145 hsz
                 replace hBE := below_ext hBE hE145 hBE.size
                 replace hbx := hbx.ext hE145
                 replace hbz := hbz.ext hE145
                 replace hty_bx := hty_bx.ext hE145
                 replace hty_bz := hty_bz.ext hE145
                 replace hT := hT.ext hE145
                 replace hY := hY.ext hE145
                 replace hb74 := hb74.ext hE145
                 replace hty_b74 := hty_b74.ext hE145
                 replace hszW := Nat.le_trans hszW hE145.size
                 replace ho134 := own_ext ho134 hE145
                 replace hsz := Nat.le_trans hsz hE145.size
                 refine m_fork3 ?_ ?_
                 ·
                  have hbl_b1 := (hb1.ext (Ext.of_below hBE)).lt
                  have hbl_b2 := (hb2.ext (Ext.of_below hBE)).lt
                  have hbl_b3 := (hb3.ext (Ext.of_below hBE)).lt
                  have hbl_bx := hbx.lt
                  have hbl_bz := hbz.lt
                  have hbl_b74 := hb74.lt
                  have hszf146 := hBE.size
                  have hbo_b134 := (ho134.lt b134 rfl).2
                  refine m_o3 rfl rfl (o_buildSlice (el := 3) (cs := []) Tryz.underlying27 el3 (by decide) (by kernel_rfl) rfl (by decide) rfl ?_)
                  intro b147 w147 hzl147 hzr147 _ hb147 hE147 ho147
                  refine ⟨(below_ext_of hE147 hszW), ?_⟩
                  have hne_b1_b147 : b1 ≠ b147 := by have := (hb1.ext (Ext.of_below hBE)).lt; omega
                  have hne_b2_b147 : b2 ≠ b147 := by have := (hb2.ext (Ext.of_below hBE)).lt; omega
                  have hne_b3_b147 : b3 ≠ b147 := by have := (hb3.ext (Ext.of_below hBE)).lt; omega
                  have hne_bx_b147 : bx ≠ b147 := by have := hbx.lt; omega
                  have hne_bz_b147 : bz ≠ b147 := by have := hbz.lt; omega
                  have hne_b74_b147 : b74 ≠ b147 := by have := hb74.lt; omega
                  have hno_ho134_b147 : ∀ g, (Value.slice (some ⟨b134, 0, none⟩) 0 0).ownBlock = some g → g ≠ b147 := fun g hg => by have := (ho134.lt g hg).2; omega
                  have hno_hst145_b147 : ∀ g, (Value.slice oa145 ns.length oc145).ownBlock = some g → g ≠ b147 := fun g hg => by have := (hst145.lt g hg).2; omega
                  have hbs_b147 : w.heap.size ≤ b147 := Nat.le_trans hsz hzl147
                  have hWp_b147 := hszW
                  have hbW_b147 := Nat.le_trans hszW hzl147
                  replace hB := below_ext hB hE147 hsz
                  replace hBE := below_ext hBE hE147 hBE.size
                  replace hbx := hbx.ext hE147
                  replace hbz := hbz.ext hE147
                  replace hty_bx := hty_bx.ext hE147
                  replace hty_bz := hty_bz.ext hE147
                  replace hT := hT.ext hE147
                  replace hY := hY.ext hE147
                  replace hb74 := hb74.ext hE147
                  replace hty_b74 := hty_b74.ext hE147
                  replace hszW := Nat.le_trans hszW hE147.size
                  replace ho134 := own_ext ho134 hE147
                  replace hst145 := own_ext hst145 hE147
                  replace hsz := Nat.le_trans hsz hE147.size
                  replace ho147 := own_mono ho147 (show w75.heap.size ≤ _ by omega)
                  have hbl_b1 := (hb1.ext (Ext.of_below hBE)).lt
                  have hbl_b2 := (hb2.ext (Ext.of_below hBE)).lt
                  have hbl_b3 := (hb3.ext (Ext.of_below hBE)).lt
                  have hbl_bx := hbx.lt
                  have hbl_bz := hbz.lt
                  have hbl_b74 := hb74.lt
                  have hszf148 := hBE.size
                  have hbo_b134 := (ho134.lt b134 rfl).2
                  have hbo_b147 := (ho147.lt b147 rfl).2
                  have hbq_b147 := (ho147.lt b147 rfl).2
                  refine m_o3 rfl rfl (o_append_at (f := vint) [] (cs) Tryz.underlying27 el3 rfl rfl ho134 rfl (hcs.below hB) (by omega) (fun _ => rfl) (by (try simp only [List.length_append, List.length_cons, List.length_nil]); omega) hszW rfl ?_)
                  intro aq149 cq149 w149 hz149 ho149 hG149 hq149
                  refine ⟨(below_own_of hG149 ho134 (by omega) hszW), ?_⟩
                  have hno_ho149_b147 := ne_of_hq (b6 := b147) hq149 (rfl : _ = some b134) (by omega) (by omega)
                  replace hB := below_own hB hG149 ho134 (by omega) hsz
                  replace hsz := Nat.le_trans hsz hG149.size
                  replace hBE := below_own hBE hG149 ho134 (by first | exact Nat.le_refl _ | omega) hBE.size
                  replace hbx := hbx.step hG149 (own_ty_ne ho134 hty_bx (by decide))
                  replace hbz := hbz.step hG149 (own_ty_ne ho134 hty_bz (by decide))
                  replace hT := TwoI.low hT hT1 hT2 ho134 hG149
                  replace hY := row_lowv hY hltY7 ho134 hG149
                  replace hb74 := hb74.step hG149 (own_ty_ne ho134 hty_b74 (by decide))
                  replace hszW := Nat.le_trans hszW hG149.size
                  replace hst145 := own_kept hst145 ho134 (by decide) hG149
                  replace ho147 := own_updne (b := b134) ho147 hG149 (fun g hg => by have e : b147 = g := (by simpa [Value.ownBlock] using hg); omega)
                  replace hty_bx := TyAt.own hty_bx ho134 hG149 (by decide)
                  replace hty_bz := TyAt.own hty_bz ho134 hG149 (by decide)
                  replace hty_b74 := TyAt.own hty_b74 ho134 hG149 (by decide)
                  have hbl_b1 := (hb1.ext (Ext.of_below hBE)).lt
                  have hbl_b2 := (hb2.ext (Ext.of_below hBE)).lt
                  have hbl_b3 := (hb3.ext (Ext.of_below hBE)).lt
                  have hbl_bx := hbx.lt
                  have hbl_bz := hbz.lt
                  have hbl_b74 := hb74.lt
                  have hszf150 := hBE.size
                  have hbo_b147 := (ho147.lt b147 rfl).2
                  refine m_o3 rfl rfl (o_append_map (f := vint) ([]) (X) Tryz.underlying27 el3 rfl rfl ho147 rfl (hX.ext (Ext.of_below hBE)) (fun _ => rfl) (by (try simp only [List.length_append, List.length_cons, List.length_nil, List.length_take, List.length_drop, List.length_replicate]); omega) (by omega) rfl ?_)
                  intro a151 c151 w151 hz151 ho151 hG151
                  refine ⟨(below_own_of hG151 ho147 (by omega) hszW), ?_⟩
                  replace hB := below_own hB hG151 ho147 (by omega) hsz
                  replace hsz := Nat.le_trans hsz hG151.size
                  replace hBE := below_own hBE hG151 ho147 (by first | exact Nat.le_refl _ | omega) hBE.size
                  replace hbx := hbx.step hG151 (own_ty_ne ho147 hty_bx (by decide))
                  replace hbz := hbz.step hG151 (own_ty_ne ho147 hty_bz (by decide))
                  replace hT := TwoI.low hT hT1 hT2 ho147 hG151
                  replace hY := row_lowv hY hltY7 ho147 hG151
                  replace hb74 := hb74.step hG151 (own_ty_ne ho147 hty_b74 (by decide))
                  replace hszW := Nat.le_trans hszW hG151.size
                  replace hst145 := own_kept hst145 ho147 (by decide) hG151
                  replace ho149 := own_updne (b := b147) ho149 hG151 hno_ho149_b147
                  replace hty_bx := TyAt.own hty_bx ho147 hG151 (by decide)
                  replace hty_bz := TyAt.own hty_bz ho147 hG151 (by decide)
                  replace hty_b74 := TyAt.own hty_b74 ho147 hG151 (by decide)
                  refine m_q3 rfl rfl (fun w' hC' => q_build (v := .agg ⟨[.slice aq149 (([] ++ cs).length) cq149, .slice a151 (([] ++ X).length) c151]⟩) (fun w => by kernel_rfl) rfl) (m_o3 rfl rfl (o_call Tryz.call15 rfl (truth8_ret st0 ta tc Y _ hY hYl) rfl ?_))
                  rintro _ w152 ⟨za, zc, rfl, hZ, hE152⟩
                  refine ⟨(below_ext_of hE152 hszW), ?_⟩
                  replace hB := below_ext hB hE152 hsz
                  replace hBE := below_ext hBE hE152 hBE.size
                  replace hbx := hbx.ext hE152
                  replace hbz := hbz.ext hE152
                  replace hty_bx := hty_bx.ext hE152
                  replace hty_bz := hty_bz.ext hE152
                  replace hT := hT.ext hE152
                  replace hY := hY.ext hE152
                  replace hb74 := hb74.ext hE152
                  replace hty_b74 := hty_b74.ext hE152
                  replace hszW := Nat.le_trans hszW hE152.size
                  replace hst145 := own_ext hst145 hE152
                  replace ho149 := own_ext ho149 hE152
                  replace ho151 := own_ext ho151 hE152
                  replace hsz := Nat.le_trans hsz hE152.size
                  refine m_last3 rfl rfl rfl (o_call Tryz.call14 rfl (play_ret cap can s0 s1 oa145 oc145 ns aq149 cq149 cs a151 c151 X st0 za zc Y oil lt _ (Row.of_owns hst145) (Row.of_owns ho149) (Row.of_owns ho151) hZ hos hcn hwp hbp hstr hlp) rfl ?_)
                  rintro _ w153 ⟨p1, q1, r1, p2, q2, r2, la, lc, rfl, hLt, hEp⟩
                  replace hB := below_ext hB hEp hsz
                  replace hBE := below_ext hBE hEp hBE.size
                  replace hbx := hbx.ext hEp
                  replace hbz := hbz.ext hEp
                  replace hty_bx := hty_bx.ext hEp
                  replace hty_bz := hty_bz.ext hEp
                  replace hT := hT.ext hEp
                  replace hY := hY.ext hEp
                  replace hb74 := hb74.ext hEp
                  replace hty_b74 := hty_b74.ext hEp
                  replace hszW := Nat.le_trans hszW hEp.size
                  replace hst145 := own_ext hst145 hEp
                  replace hZ := hZ.ext hEp
                  replace hsz := Nat.le_trans hsz hEp.size
                  refine m_q3 rfl rfl (fun w' hC' => q_move (v := .tuple _) rfl rfl) (m_q3 rfl rfl (fun w' hC' => q_extract (vs := [_, _, _, _]) (v := .slice _ _ _) rfl rfl rfl) (m_q3 rfl rfl (fun w' hC' => q_extract (vs := [_, _, _, _]) (v := .slice _ _ _) rfl rfl rfl) (m_q3 rfl rfl (fun w' hC' => q_extract (vs := [_, _, _, _]) (v := .slice _ _ _) rfl rfl rfl) (m_q3 rfl rfl (fun w' hC' => q_extract (vs := [_, _, _, _]) (v := .int _ _) rfl rfl rfl) (m_q3 rfl rfl (fun w' hC' => qas rfl rfl) (m_q3 rfl rfl (fun w' hC' => qas rfl rfl) (m_q3 rfl rfl (fun w' hC' => qas rfl rfl) (m_q3 rfl rfl (fun w' hC' => qai rfl rfl) (m_nil3 (r_forget [(4, .int _ _), (5, .pointer _), (14, .pointer _), (15, .pointer _), (20, .slice _ _ _), (21, .int _ _)] ⟨rfl, rfl, rfl, rfl, rfl, rfl, trivial⟩ (fun e154 => ?_)))))))))))
                  exact hj77 (la, lc) _ _ ⟨⟨rfl, rfl, rfl, rfl, rfl, rfl, trivial⟩, hLt, hBE, hbx, hbz, hty_bx, hty_bz, hT, hY, hb74, hty_b74, hsz, hB⟩
                 ·
                  have hbl_b1 := (hb1.ext (Ext.of_below hBE)).lt
                  have hbl_b2 := (hb2.ext (Ext.of_below hBE)).lt
                  have hbl_b3 := (hb3.ext (Ext.of_below hBE)).lt
                  have hbl_bx := hbx.lt
                  have hbl_bz := hbz.lt
                  have hbl_b74 := hb74.lt
                  have hszf155 := hBE.size
                  have hbo_b134 := (ho134.lt b134 rfl).2
                  refine m_o3 rfl rfl (o_append_at (f := vint) [] (cs) Tryz.underlying27 el3 rfl rfl ho134 rfl (hcs.below hB) (by omega) (fun _ => rfl) (by (try simp only [List.length_append, List.length_cons, List.length_nil]); omega) hszW rfl ?_)
                  intro aq156 cq156 w156 hz156 ho156 hG156 hq156
                  refine ⟨(below_own_of hG156 ho134 (by omega) hszW), ?_⟩
                  replace hB := below_own hB hG156 ho134 (by omega) hsz
                  replace hsz := Nat.le_trans hsz hG156.size
                  replace hBE := below_own hBE hG156 ho134 (by first | exact Nat.le_refl _ | omega) hBE.size
                  replace hbx := hbx.step hG156 (own_ty_ne ho134 hty_bx (by decide))
                  replace hbz := hbz.step hG156 (own_ty_ne ho134 hty_bz (by decide))
                  replace hT := TwoI.low hT hT1 hT2 ho134 hG156
                  replace hY := row_lowv hY hltY7 ho134 hG156
                  replace hb74 := hb74.step hG156 (own_ty_ne ho134 hty_b74 (by decide))
                  replace hszW := Nat.le_trans hszW hG156.size
                  replace hst145 := own_kept hst145 ho134 (by decide) hG156
                  replace hty_bx := TyAt.own hty_bx ho134 hG156 (by decide)
                  replace hty_bz := TyAt.own hty_bz ho134 hG156 (by decide)
                  replace hty_b74 := TyAt.own hty_b74 ho134 hG156 (by decide)
                  have hbl_b1 := (hb1.ext (Ext.of_below hBE)).lt
                  have hbl_b2 := (hb2.ext (Ext.of_below hBE)).lt
                  have hbl_b3 := (hb3.ext (Ext.of_below hBE)).lt
                  have hbl_bx := hbx.lt
                  have hbl_bz := hbz.lt
                  have hbl_b74 := hb74.lt
                  have hszf157 := hBE.size
                  refine m_o3 rfl rfl (o_buildSlice (el := 3) (cs := []) Tryz.underlying27 el3 (by decide) (by kernel_rfl) rfl (by decide) rfl ?_)
                  intro b158 w158 hzl158 hzr158 _ hb158 hE158 ho158
                  refine ⟨(below_ext_of hE158 hszW), ?_⟩
                  have hne_b1_b158 : b1 ≠ b158 := by have := (hb1.ext (Ext.of_below hBE)).lt; omega
                  have hne_b2_b158 : b2 ≠ b158 := by have := (hb2.ext (Ext.of_below hBE)).lt; omega
                  have hne_b3_b158 : b3 ≠ b158 := by have := (hb3.ext (Ext.of_below hBE)).lt; omega
                  have hne_bx_b158 : bx ≠ b158 := by have := hbx.lt; omega
                  have hne_bz_b158 : bz ≠ b158 := by have := hbz.lt; omega
                  have hne_b74_b158 : b74 ≠ b158 := by have := hb74.lt; omega
                  have hno_hst145_b158 : ∀ g, (Value.slice oa145 ns.length oc145).ownBlock = some g → g ≠ b158 := fun g hg => by have := (hst145.lt g hg).2; omega
                  have hno_ho156_b158 : ∀ g, (Value.slice aq156 (([] ++ cs).length) cq156).ownBlock = some g → g ≠ b158 := fun g hg => by have := (ho156.lt g hg).2; omega
                  have hbs_b158 : w.heap.size ≤ b158 := Nat.le_trans hsz hzl158
                  have hWp_b158 := hszW
                  have hbW_b158 := Nat.le_trans hszW hzl158
                  replace hB := below_ext hB hE158 hsz
                  replace hBE := below_ext hBE hE158 hBE.size
                  replace hbx := hbx.ext hE158
                  replace hbz := hbz.ext hE158
                  replace hty_bx := hty_bx.ext hE158
                  replace hty_bz := hty_bz.ext hE158
                  replace hT := hT.ext hE158
                  replace hY := hY.ext hE158
                  replace hb74 := hb74.ext hE158
                  replace hty_b74 := hty_b74.ext hE158
                  replace hszW := Nat.le_trans hszW hE158.size
                  replace hst145 := own_ext hst145 hE158
                  replace ho156 := own_ext ho156 hE158
                  replace hsz := Nat.le_trans hsz hE158.size
                  replace ho158 := own_mono ho158 (show w75.heap.size ≤ _ by omega)
                  have hbl_b1 := (hb1.ext (Ext.of_below hBE)).lt
                  have hbl_b2 := (hb2.ext (Ext.of_below hBE)).lt
                  have hbl_b3 := (hb3.ext (Ext.of_below hBE)).lt
                  have hbl_bx := hbx.lt
                  have hbl_bz := hbz.lt
                  have hbl_b74 := hb74.lt
                  have hszf159 := hBE.size
                  have hbo_b158 := (ho158.lt b158 rfl).2
                  refine m_o3 rfl rfl (o_append_map (f := vint) ([]) (X) Tryz.underlying27 el3 rfl rfl ho158 rfl (hX.ext (Ext.of_below hBE)) (fun _ => rfl) (by (try simp only [List.length_append, List.length_cons, List.length_nil, List.length_take, List.length_drop, List.length_replicate]); omega) (by omega) rfl ?_)
                  intro a160 c160 w160 hz160 ho160 hG160
                  refine ⟨(below_own_of hG160 ho158 (by omega) hszW), ?_⟩
                  replace hB := below_own hB hG160 ho158 (by omega) hsz
                  replace hsz := Nat.le_trans hsz hG160.size
                  replace hBE := below_own hBE hG160 ho158 (by first | exact Nat.le_refl _ | omega) hBE.size
                  replace hbx := hbx.step hG160 (own_ty_ne ho158 hty_bx (by decide))
                  replace hbz := hbz.step hG160 (own_ty_ne ho158 hty_bz (by decide))
                  replace hT := TwoI.low hT hT1 hT2 ho158 hG160
                  replace hY := row_lowv hY hltY7 ho158 hG160
                  replace hb74 := hb74.step hG160 (own_ty_ne ho158 hty_b74 (by decide))
                  replace hszW := Nat.le_trans hszW hG160.size
                  replace hst145 := own_kept hst145 ho158 (by decide) hG160
                  replace ho156 := own_updne (b := b158) ho156 hG160 hno_ho156_b158
                  replace hty_bx := TyAt.own hty_bx ho158 hG160 (by decide)
                  replace hty_bz := TyAt.own hty_bz ho158 hG160 (by decide)
                  replace hty_b74 := TyAt.own hty_b74 ho158 hG160 (by decide)
                  refine m_q3 rfl rfl (fun w' hC' => q_build (v := .agg ⟨[.slice aq156 (([] ++ cs).length) cq156, .slice a160 (([] ++ X).length) c160]⟩) (fun w => by kernel_rfl) rfl) (m_o3 rfl rfl (o_call Tryz.call15 rfl (truth8_ret st0 ta tc Y _ hY hYl) rfl ?_))
                  rintro _ w161 ⟨za, zc, rfl, hZ, hE161⟩
                  refine ⟨(below_ext_of hE161 hszW), ?_⟩
                  replace hB := below_ext hB hE161 hsz
                  replace hBE := below_ext hBE hE161 hBE.size
                  replace hbx := hbx.ext hE161
                  replace hbz := hbz.ext hE161
                  replace hty_bx := hty_bx.ext hE161
                  replace hty_bz := hty_bz.ext hE161
                  replace hT := hT.ext hE161
                  replace hY := hY.ext hE161
                  replace hb74 := hb74.ext hE161
                  replace hty_b74 := hty_b74.ext hE161
                  replace hszW := Nat.le_trans hszW hE161.size
                  replace hst145 := own_ext hst145 hE161
                  replace ho156 := own_ext ho156 hE161
                  replace ho160 := own_ext ho160 hE161
                  replace hsz := Nat.le_trans hsz hE161.size
                  refine m_last3 rfl rfl rfl (o_call Tryz.call14 rfl (play_ret cap can s0 s1 oa145 oc145 ns aq156 cq156 cs a160 c160 X st0 za zc Y oil lt _ (Row.of_owns hst145) (Row.of_owns ho156) (Row.of_owns ho160) hZ hos hcn hwp hbp hstr hlp) rfl ?_)
                  rintro _ w162 ⟨p1, q1, r1, p2, q2, r2, la, lc, rfl, hLt, hEp⟩
                  replace hB := below_ext hB hEp hsz
                  replace hBE := below_ext hBE hEp hBE.size
                  replace hbx := hbx.ext hEp
                  replace hbz := hbz.ext hEp
                  replace hty_bx := hty_bx.ext hEp
                  replace hty_bz := hty_bz.ext hEp
                  replace hT := hT.ext hEp
                  replace hY := hY.ext hEp
                  replace hb74 := hb74.ext hEp
                  replace hty_b74 := hty_b74.ext hEp
                  replace hszW := Nat.le_trans hszW hEp.size
                  replace hZ := hZ.ext hEp
                  replace hsz := Nat.le_trans hsz hEp.size
                  refine m_q3 rfl rfl (fun w' hC' => q_move (v := .tuple _) rfl rfl) (m_q3 rfl rfl (fun w' hC' => q_extract (vs := [_, _, _, _]) (v := .slice _ _ _) rfl rfl rfl) (m_q3 rfl rfl (fun w' hC' => q_extract (vs := [_, _, _, _]) (v := .slice _ _ _) rfl rfl rfl) (m_q3 rfl rfl (fun w' hC' => q_extract (vs := [_, _, _, _]) (v := .slice _ _ _) rfl rfl rfl) (m_q3 rfl rfl (fun w' hC' => q_extract (vs := [_, _, _, _]) (v := .int _ _) rfl rfl rfl) (m_q3 rfl rfl (fun w' hC' => qas rfl rfl) (m_q3 rfl rfl (fun w' hC' => qas rfl rfl) (m_q3 rfl rfl (fun w' hC' => qas rfl rfl) (m_q3 rfl rfl (fun w' hC' => qai rfl rfl) (m_nil3 (r_forget [(4, .int _ _), (5, .pointer _), (14, .pointer _), (15, .pointer _), (20, .slice _ _ _), (21, .int _ _)] ⟨rfl, rfl, rfl, rfl, rfl, rfl, trivial⟩ (fun e163 => ?_)))))))))))
                  exact hj77 (la, lc) _ _ ⟨⟨rfl, rfl, rfl, rfl, rfl, rfl, trivial⟩, hLt, hBE, hbx, hbz, hty_bx, hty_bz, hT, hY, hb74, hty_b74, hsz, hB⟩
               ·
                refine m_o3 rfl rfl (o_call Tryz.call10 rfl (store8_ret cap can s0 s1 sa sc ns _ (hns.below hB) hsl) rfl ?_)
                rintro _ w164 ⟨oa164, oc164, rfl, hst164, hE164⟩
                replace hst164 := own_mono hst164 (show w75.heap.size ≤ _ by omega)
                refine ⟨(below_ext_of hE164 hszW), ?_⟩
                replace hB := below_ext hB hE164 hsz
                replace hBE := below_ext hBE hE164 hBE.size
                replace hbx := hbx.ext hE164
                replace hbz := hbz.ext hE164
                replace hty_bx := hty_bx.ext hE164
                replace hty_bz := hty_bz.ext hE164
                replace hT := hT.ext hE164
                replace hY := hY.ext hE164
                replace hb74 := hb74.ext hE164
                replace hty_b74 := hty_b74.ext hE164
                replace hszW := Nat.le_trans hszW hE164.size
                replace hsz := Nat.le_trans hsz hE164.size
                refine m_fork3 ?_ ?_
                ·
                 have hbl_b1 := (hb1.ext (Ext.of_below hBE)).lt
                 have hbl_b2 := (hb2.ext (Ext.of_below hBE)).lt
                 have hbl_b3 := (hb3.ext (Ext.of_below hBE)).lt
                 have hbl_bx := hbx.lt
                 have hbl_bz := hbz.lt
                 have hbl_b74 := hb74.lt
                 have hszf165 := hBE.size
                 refine m_o3 rfl rfl (o_buildSlice (el := 3) (cs := []) Tryz.underlying27 el3 (by decide) (by kernel_rfl) rfl (by decide) rfl ?_)
                 intro b166 w166 hzl166 hzr166 _ hb166 hE166 ho166
                 refine ⟨(below_ext_of hE166 hszW), ?_⟩
                 have hne_b1_b166 : b1 ≠ b166 := by have := (hb1.ext (Ext.of_below hBE)).lt; omega
                 have hne_b2_b166 : b2 ≠ b166 := by have := (hb2.ext (Ext.of_below hBE)).lt; omega
                 have hne_b3_b166 : b3 ≠ b166 := by have := (hb3.ext (Ext.of_below hBE)).lt; omega
                 have hne_bx_b166 : bx ≠ b166 := by have := hbx.lt; omega
                 have hne_bz_b166 : bz ≠ b166 := by have := hbz.lt; omega
                 have hne_b74_b166 : b74 ≠ b166 := by have := hb74.lt; omega
                 have hno_hst164_b166 : ∀ g, (Value.slice oa164 ns.length oc164).ownBlock = some g → g ≠ b166 := fun g hg => by have := (hst164.lt g hg).2; omega
                 have hbs_b166 : w.heap.size ≤ b166 := Nat.le_trans hsz hzl166
                 have hWp_b166 := hszW
                 have hbW_b166 := Nat.le_trans hszW hzl166
                 replace hB := below_ext hB hE166 hsz
                 replace hBE := below_ext hBE hE166 hBE.size
                 replace hbx := hbx.ext hE166
                 replace hbz := hbz.ext hE166
                 replace hty_bx := hty_bx.ext hE166
                 replace hty_bz := hty_bz.ext hE166
                 replace hT := hT.ext hE166
                 replace hY := hY.ext hE166
                 replace hb74 := hb74.ext hE166
                 replace hty_b74 := hty_b74.ext hE166
                 replace hszW := Nat.le_trans hszW hE166.size
                 replace hst164 := own_ext hst164 hE166
                 replace hsz := Nat.le_trans hsz hE166.size
                 replace ho166 := own_mono ho166 (show w75.heap.size ≤ _ by omega)
                 have hbl_b1 := (hb1.ext (Ext.of_below hBE)).lt
                 have hbl_b2 := (hb2.ext (Ext.of_below hBE)).lt
                 have hbl_b3 := (hb3.ext (Ext.of_below hBE)).lt
                 have hbl_bx := hbx.lt
                 have hbl_bz := hbz.lt
                 have hbl_b74 := hb74.lt
                 have hszf167 := hBE.size
                 have hbo_b166 := (ho166.lt b166 rfl).2
                 refine m_o3 rfl rfl (o_buildSlice (el := 3) (cs := []) Tryz.underlying27 el3 (by decide) (by kernel_rfl) rfl (by decide) rfl ?_)
                 intro b168 w168 hzl168 hzr168 _ hb168 hE168 ho168
                 refine ⟨(below_ext_of hE168 hszW), ?_⟩
                 have hne_b1_b168 : b1 ≠ b168 := by have := (hb1.ext (Ext.of_below hBE)).lt; omega
                 have hne_b2_b168 : b2 ≠ b168 := by have := (hb2.ext (Ext.of_below hBE)).lt; omega
                 have hne_b3_b168 : b3 ≠ b168 := by have := (hb3.ext (Ext.of_below hBE)).lt; omega
                 have hne_bx_b168 : bx ≠ b168 := by have := hbx.lt; omega
                 have hne_bz_b168 : bz ≠ b168 := by have := hbz.lt; omega
                 have hne_b74_b168 : b74 ≠ b168 := by have := hb74.lt; omega
                 have hno_hst164_b168 : ∀ g, (Value.slice oa164 ns.length oc164).ownBlock = some g → g ≠ b168 := fun g hg => by have := (hst164.lt g hg).2; omega
                 have hno_ho166_b168 : ∀ g, (Value.slice (some ⟨b166, 0, none⟩) 0 0).ownBlock = some g → g ≠ b168 := fun g hg => by have := (ho166.lt g hg).2; omega
                 have hbs_b168 : w.heap.size ≤ b168 := Nat.le_trans hsz hzl168
                 have hWp_b168 := hszW
                 have hbW_b168 := Nat.le_trans hszW hzl168
                 replace hB := below_ext hB hE168 hsz
                 replace hBE := below_ext hBE hE168 hBE.size
                 replace hbx := hbx.ext hE168
                 replace hbz := hbz.ext hE168
                 replace hty_bx := hty_bx.ext hE168
                 replace hty_bz := hty_bz.ext hE168
                 replace hT := hT.ext hE168
                 replace hY := hY.ext hE168
                 replace hb74 := hb74.ext hE168
                 replace hty_b74 := hty_b74.ext hE168
                 replace hszW := Nat.le_trans hszW hE168.size
                 replace hst164 := own_ext hst164 hE168
                 replace ho166 := own_ext ho166 hE168
                 replace hsz := Nat.le_trans hsz hE168.size
                 replace ho168 := own_mono ho168 (show w75.heap.size ≤ _ by omega)
                 have hbl_b1 := (hb1.ext (Ext.of_below hBE)).lt
                 have hbl_b2 := (hb2.ext (Ext.of_below hBE)).lt
                 have hbl_b3 := (hb3.ext (Ext.of_below hBE)).lt
                 have hbl_bx := hbx.lt
                 have hbl_bz := hbz.lt
                 have hbl_b74 := hb74.lt
                 have hszf169 := hBE.size
                 have hbo_b166 := (ho166.lt b166 rfl).2
                 have hbo_b168 := (ho168.lt b168 rfl).2
                 have hbq_b166 := (ho166.lt b166 rfl).2
                 refine m_o3 rfl rfl (o_append_at (f := vint) [] (cs) Tryz.underlying27 el3 rfl rfl ho168 rfl (hcs.below hB) (by omega) (fun _ => rfl) (by (try simp only [List.length_append, List.length_cons, List.length_nil]); omega) hszW rfl ?_)
                 intro aq170 cq170 w170 hz170 ho170 hG170 hq170
                 refine ⟨(below_own_of hG170 ho168 (by omega) hszW), ?_⟩
                 have hno_ho170_b166 := ne_of_hq (b6 := b166) hq170 (rfl : _ = some b168) (by omega) (by omega)
                 replace hB := below_own hB hG170 ho168 (by omega) hsz
                 replace hsz := Nat.le_trans hsz hG170.size
                 replace hBE := below_own hBE hG170 ho168 (by first | exact Nat.le_refl _ | omega) hBE.size
                 replace hbx := hbx.step hG170 (own_ty_ne ho168 hty_bx (by decide))
                 replace hbz := hbz.step hG170 (own_ty_ne ho168 hty_bz (by decide))
                 replace hT := TwoI.low hT hT1 hT2 ho168 hG170
                 replace hY := row_lowv hY hltY7 ho168 hG170
                 replace hb74 := hb74.step hG170 (own_ty_ne ho168 hty_b74 (by decide))
                 replace hszW := Nat.le_trans hszW hG170.size
                 replace hst164 := own_kept hst164 ho168 (by decide) hG170
                 replace ho166 := own_updne (b := b168) ho166 hG170 (fun g hg => by have e : b166 = g := (by simpa [Value.ownBlock] using hg); omega)
                 replace hty_bx := TyAt.own hty_bx ho168 hG170 (by decide)
                 replace hty_bz := TyAt.own hty_bz ho168 hG170 (by decide)
                 replace hty_b74 := TyAt.own hty_b74 ho168 hG170 (by decide)
                 have hbl_b1 := (hb1.ext (Ext.of_below hBE)).lt
                 have hbl_b2 := (hb2.ext (Ext.of_below hBE)).lt
                 have hbl_b3 := (hb3.ext (Ext.of_below hBE)).lt
                 have hbl_bx := hbx.lt
                 have hbl_bz := hbz.lt
                 have hbl_b74 := hb74.lt
                 have hszf171 := hBE.size
                 have hbo_b166 := (ho166.lt b166 rfl).2
                 refine m_o3 rfl rfl (o_append_map (f := vint) ([]) (X) Tryz.underlying27 el3 rfl rfl ho166 rfl (hX.ext (Ext.of_below hBE)) (fun _ => rfl) (by (try simp only [List.length_append, List.length_cons, List.length_nil, List.length_take, List.length_drop, List.length_replicate]); omega) (by omega) rfl ?_)
                 intro a172 c172 w172 hz172 ho172 hG172
                 refine ⟨(below_own_of hG172 ho166 (by omega) hszW), ?_⟩
                 replace hB := below_own hB hG172 ho166 (by omega) hsz
                 replace hsz := Nat.le_trans hsz hG172.size
                 replace hBE := below_own hBE hG172 ho166 (by first | exact Nat.le_refl _ | omega) hBE.size
                 replace hbx := hbx.step hG172 (own_ty_ne ho166 hty_bx (by decide))
                 replace hbz := hbz.step hG172 (own_ty_ne ho166 hty_bz (by decide))
                 replace hT := TwoI.low hT hT1 hT2 ho166 hG172
                 replace hY := row_lowv hY hltY7 ho166 hG172
                 replace hb74 := hb74.step hG172 (own_ty_ne ho166 hty_b74 (by decide))
                 replace hszW := Nat.le_trans hszW hG172.size
                 replace hst164 := own_kept hst164 ho166 (by decide) hG172
                 replace ho170 := own_updne (b := b166) ho170 hG172 hno_ho170_b166
                 replace hty_bx := TyAt.own hty_bx ho166 hG172 (by decide)
                 replace hty_bz := TyAt.own hty_bz ho166 hG172 (by decide)
                 replace hty_b74 := TyAt.own hty_b74 ho166 hG172 (by decide)
                 refine m_q3 rfl rfl (fun w' hC' => q_build (v := .agg ⟨[.slice aq170 (([] ++ cs).length) cq170, .slice a172 (([] ++ X).length) c172]⟩) (fun w => by kernel_rfl) rfl) (m_o3 rfl rfl (o_call Tryz.call15 rfl (truth8_ret st0 ta tc Y _ hY hYl) rfl ?_))
                 rintro _ w173 ⟨za, zc, rfl, hZ, hE173⟩
                 refine ⟨(below_ext_of hE173 hszW), ?_⟩
                 replace hB := below_ext hB hE173 hsz
                 replace hBE := below_ext hBE hE173 hBE.size
                 replace hbx := hbx.ext hE173
                 replace hbz := hbz.ext hE173
                 replace hty_bx := hty_bx.ext hE173
                 replace hty_bz := hty_bz.ext hE173
                 replace hT := hT.ext hE173
                 replace hY := hY.ext hE173
                 replace hb74 := hb74.ext hE173
                 replace hty_b74 := hty_b74.ext hE173
                 replace hszW := Nat.le_trans hszW hE173.size
                 replace hst164 := own_ext hst164 hE173
                 replace ho170 := own_ext ho170 hE173
                 replace ho172 := own_ext ho172 hE173
                 replace hsz := Nat.le_trans hsz hE173.size
                 refine m_last3 rfl rfl rfl (o_call Tryz.call14 rfl (play_ret cap can s0 s1 oa164 oc164 ns aq170 cq170 cs a172 c172 X st0 za zc Y oil lt _ (Row.of_owns hst164) (Row.of_owns ho170) (Row.of_owns ho172) hZ hos hcn hwp hbp hstr hlp) rfl ?_)
                 rintro _ w174 ⟨p1, q1, r1, p2, q2, r2, la, lc, rfl, hLt, hEp⟩
                 replace hB := below_ext hB hEp hsz
                 replace hBE := below_ext hBE hEp hBE.size
                 replace hbx := hbx.ext hEp
                 replace hbz := hbz.ext hEp
                 replace hty_bx := hty_bx.ext hEp
                 replace hty_bz := hty_bz.ext hEp
                 replace hT := hT.ext hEp
                 replace hY := hY.ext hEp
                 replace hb74 := hb74.ext hEp
                 replace hty_b74 := hty_b74.ext hEp
                 replace hszW := Nat.le_trans hszW hEp.size
                 replace hst164 := own_ext hst164 hEp
                 replace hZ := hZ.ext hEp
                 replace hsz := Nat.le_trans hsz hEp.size
                 refine m_q3 rfl rfl (fun w' hC' => q_move (v := .tuple _) rfl rfl) (m_q3 rfl rfl (fun w' hC' => q_extract (vs := [_, _, _, _]) (v := .slice _ _ _) rfl rfl rfl) (m_q3 rfl rfl (fun w' hC' => q_extract (vs := [_, _, _, _]) (v := .slice _ _ _) rfl rfl rfl) (m_q3 rfl rfl (fun w' hC' => q_extract (vs := [_, _, _, _]) (v := .slice _ _ _) rfl rfl rfl) (m_q3 rfl rfl (fun w' hC' => q_extract (vs := [_, _, _, _]) (v := .int _ _) rfl rfl rfl) (m_q3 rfl rfl (fun w' hC' => qas rfl rfl) (m_q3 rfl rfl (fun w' hC' => qas rfl rfl) (m_q3 rfl rfl (fun w' hC' => qas rfl rfl) (m_q3 rfl rfl (fun w' hC' => qai rfl rfl) (m_nil3 (r_forget [(4, .int _ _), (5, .pointer _), (14, .pointer _), (15, .pointer _), (20, .slice _ _ _), (21, .int _ _)] ⟨rfl, rfl, rfl, rfl, rfl, rfl, trivial⟩ (fun e175 => ?_)))))))))))
                 exact hj77 (la, lc) _ _ ⟨⟨rfl, rfl, rfl, rfl, rfl, rfl, trivial⟩, hLt, hBE, hbx, hbz, hty_bx, hty_bz, hT, hY, hb74, hty_b74, hsz, hB⟩
                ·
                 have hbl_b1 := (hb1.ext (Ext.of_below hBE)).lt
                 have hbl_b2 := (hb2.ext (Ext.of_below hBE)).lt
                 have hbl_b3 := (hb3.ext (Ext.of_below hBE)).lt
                 have hbl_bx := hbx.lt
                 have hbl_bz := hbz.lt
                 have hbl_b74 := hb74.lt
                 have hszf176 := hBE.size
                 refine m_o3 rfl rfl (o_buildSlice (el := 3) (cs := []) Tryz.underlying27 el3 (by decide) (by kernel_rfl) rfl (by decide) rfl ?_)
                 intro b177 w177 hzl177 hzr177 _ hb177 hE177 ho177
                 refine ⟨(below_ext_of hE177 hszW), ?_⟩
                 have hne_b1_b177 : b1 ≠ b177 := by have := (hb1.ext (Ext.of_below hBE)).lt; omega
                 have hne_b2_b177 : b2 ≠ b177 := by have := (hb2.ext (Ext.of_below hBE)).lt; omega
                 have hne_b3_b177 : b3 ≠ b177 := by have := (hb3.ext (Ext.of_below hBE)).lt; omega
                 have hne_bx_b177 : bx ≠ b177 := by have := hbx.lt; omega
                 have hne_bz_b177 : bz ≠ b177 := by have := hbz.lt; omega
                 have hne_b74_b177 : b74 ≠ b177 := by have := hb74.lt; omega
                 have hno_hst164_b177 : ∀ g, (Value.slice oa164 ns.length oc164).ownBlock = some g → g ≠ b177 := fun g hg => by have := (hst164.lt g hg).2; omega
                 have hbs_b177 : w.heap.size ≤ b177 := Nat.le_trans hsz hzl177
                 have hWp_b177 := hszW
                 have hbW_b177 := Nat.le_trans hszW hzl177
                 replace hB := below_ext hB hE177 hsz
                 replace hBE := below_ext hBE hE177 hBE.size
                 replace hbx := hbx.ext hE177
                 replace hbz := hbz.ext hE177
                 replace hty_bx := hty_bx.ext hE177
                 replace hty_bz := hty_bz.ext hE177
                 replace hT := hT.ext hE177
                 replace hY := hY.ext hE177
                 replace hb74 := hb74.ext hE177
                 replace hty_b74 := hty_b74.ext hE177
                 replace hszW := Nat.le_trans hszW hE177.size
                 replace hst164 := own_ext hst164 hE177
                 replace hsz := Nat.le_trans hsz hE177.size
                 replace ho177 := own_mono ho177 (show w75.heap.size ≤ _ by omega)
                 refine m_fork3 ?_ ?_
                 ·
                  have hbl_b1 := (hb1.ext (Ext.of_below hBE)).lt
                  have hbl_b2 := (hb2.ext (Ext.of_below hBE)).lt
                  have hbl_b3 := (hb3.ext (Ext.of_below hBE)).lt
                  have hbl_bx := hbx.lt
                  have hbl_bz := hbz.lt
                  have hbl_b74 := hb74.lt
                  have hszf178 := hBE.size
                  have hbo_b177 := (ho177.lt b177 rfl).2
                  refine m_o3 rfl rfl (o_buildSlice (el := 3) (cs := []) Tryz.underlying27 el3 (by decide) (by kernel_rfl) rfl (by decide) rfl ?_)
                  intro b179 w179 hzl179 hzr179 _ hb179 hE179 ho179
                  refine ⟨(below_ext_of hE179 hszW), ?_⟩
                  have hne_b1_b179 : b1 ≠ b179 := by have := (hb1.ext (Ext.of_below hBE)).lt; omega
                  have hne_b2_b179 : b2 ≠ b179 := by have := (hb2.ext (Ext.of_below hBE)).lt; omega
                  have hne_b3_b179 : b3 ≠ b179 := by have := (hb3.ext (Ext.of_below hBE)).lt; omega
                  have hne_bx_b179 : bx ≠ b179 := by have := hbx.lt; omega
                  have hne_bz_b179 : bz ≠ b179 := by have := hbz.lt; omega
                  have hne_b74_b179 : b74 ≠ b179 := by have := hb74.lt; omega
                  have hno_hst164_b179 : ∀ g, (Value.slice oa164 ns.length oc164).ownBlock = some g → g ≠ b179 := fun g hg => by have := (hst164.lt g hg).2; omega
                  have hno_ho177_b179 : ∀ g, (Value.slice (some ⟨b177, 0, none⟩) 0 0).ownBlock = some g → g ≠ b179 := fun g hg => by have := (ho177.lt g hg).2; omega
                  have hbs_b179 : w.heap.size ≤ b179 := Nat.le_trans hsz hzl179
                  have hWp_b179 := hszW
                  have hbW_b179 := Nat.le_trans hszW hzl179
                  replace hB := below_ext hB hE179 hsz
                  replace hBE := below_ext hBE hE179 hBE.size
                  replace hbx := hbx.ext hE179
                  replace hbz := hbz.ext hE179
                  replace hty_bx := hty_bx.ext hE179
                  replace hty_bz := hty_bz.ext hE179
                  replace hT := hT.ext hE179
                  replace hY := hY.ext hE179
                  replace hb74 := hb74.ext hE179
                  replace hty_b74 := hty_b74.ext hE179
                  replace hszW := Nat.le_trans hszW hE179.size
                  replace hst164 := own_ext hst164 hE179
                  replace ho177 := own_ext ho177 hE179
                  replace hsz := Nat.le_trans hsz hE179.size
                  replace ho179 := own_mono ho179 (show w75.heap.size ≤ _ by omega)
                  have hbl_b1 := (hb1.ext (Ext.of_below hBE)).lt
                  have hbl_b2 := (hb2.ext (Ext.of_below hBE)).lt
                  have hbl_b3 := (hb3.ext (Ext.of_below hBE)).lt
                  have hbl_bx := hbx.lt
                  have hbl_bz := hbz.lt
                  have hbl_b74 := hb74.lt
                  have hszf180 := hBE.size
                  have hbo_b177 := (ho177.lt b177 rfl).2
                  have hbo_b179 := (ho179.lt b179 rfl).2
                  have hbq_b179 := (ho179.lt b179 rfl).2
                  refine m_o3 rfl rfl (o_append_at (f := vint) [] (cs) Tryz.underlying27 el3 rfl rfl ho177 rfl (hcs.below hB) (by omega) (fun _ => rfl) (by (try simp only [List.length_append, List.length_cons, List.length_nil]); omega) hszW rfl ?_)
                  intro aq181 cq181 w181 hz181 ho181 hG181 hq181
                  refine ⟨(below_own_of hG181 ho177 (by omega) hszW), ?_⟩
                  have hno_ho181_b179 := ne_of_hq (b6 := b179) hq181 (rfl : _ = some b177) (by omega) (by omega)
                  replace hB := below_own hB hG181 ho177 (by omega) hsz
                  replace hsz := Nat.le_trans hsz hG181.size
                  replace hBE := below_own hBE hG181 ho177 (by first | exact Nat.le_refl _ | omega) hBE.size
                  replace hbx := hbx.step hG181 (own_ty_ne ho177 hty_bx (by decide))
                  replace hbz := hbz.step hG181 (own_ty_ne ho177 hty_bz (by decide))
                  replace hT := TwoI.low hT hT1 hT2 ho177 hG181
                  replace hY := row_lowv hY hltY7 ho177 hG181
                  replace hb74 := hb74.step hG181 (own_ty_ne ho177 hty_b74 (by decide))
                  replace hszW := Nat.le_trans hszW hG181.size
                  replace hst164 := own_kept hst164 ho177 (by decide) hG181
                  replace ho179 := own_updne (b := b177) ho179 hG181 (fun g hg => by have e : b179 = g := (by simpa [Value.ownBlock] using hg); omega)
                  replace hty_bx := TyAt.own hty_bx ho177 hG181 (by decide)
                  replace hty_bz := TyAt.own hty_bz ho177 hG181 (by decide)
                  replace hty_b74 := TyAt.own hty_b74 ho177 hG181 (by decide)
                  have hbl_b1 := (hb1.ext (Ext.of_below hBE)).lt
                  have hbl_b2 := (hb2.ext (Ext.of_below hBE)).lt
                  have hbl_b3 := (hb3.ext (Ext.of_below hBE)).lt
                  have hbl_bx := hbx.lt
                  have hbl_bz := hbz.lt
                  have hbl_b74 := hb74.lt
                  have hszf182 := hBE.size
                  have hbo_b179 := (ho179.lt b179 rfl).2
                  refine m_o3 rfl rfl (o_append_map (f := vint) ([]) (X) Tryz.underlying27 el3 rfl rfl ho179 rfl (hX.ext (Ext.of_below hBE)) (fun _ => rfl) (by (try simp only [List.length_append, List.length_cons, List.length_nil, List.length_take, List.length_drop, List.length_replicate]); omega) (by omega) rfl ?_)
                  intro a183 c183 w183 hz183 ho183 hG183
                  refine ⟨(below_own_of hG183 ho179 (by omega) hszW), ?_⟩
                  replace hB := below_own hB hG183 ho179 (by omega) hsz
                  replace hsz := Nat.le_trans hsz hG183.size
                  replace hBE := below_own hBE hG183 ho179 (by first | exact Nat.le_refl _ | omega) hBE.size
                  replace hbx := hbx.step hG183 (own_ty_ne ho179 hty_bx (by decide))
                  replace hbz := hbz.step hG183 (own_ty_ne ho179 hty_bz (by decide))
                  replace hT := TwoI.low hT hT1 hT2 ho179 hG183
                  replace hY := row_lowv hY hltY7 ho179 hG183
                  replace hb74 := hb74.step hG183 (own_ty_ne ho179 hty_b74 (by decide))
                  replace hszW := Nat.le_trans hszW hG183.size
                  replace hst164 := own_kept hst164 ho179 (by decide) hG183
                  replace ho181 := own_updne (b := b179) ho181 hG183 hno_ho181_b179
                  replace hty_bx := TyAt.own hty_bx ho179 hG183 (by decide)
                  replace hty_bz := TyAt.own hty_bz ho179 hG183 (by decide)
                  replace hty_b74 := TyAt.own hty_b74 ho179 hG183 (by decide)
                  refine m_q3 rfl rfl (fun w' hC' => q_build (v := .agg ⟨[.slice aq181 (([] ++ cs).length) cq181, .slice a183 (([] ++ X).length) c183]⟩) (fun w => by kernel_rfl) rfl) (m_o3 rfl rfl (o_call Tryz.call15 rfl (truth8_ret st0 ta tc Y _ hY hYl) rfl ?_))
                  rintro _ w184 ⟨za, zc, rfl, hZ, hE184⟩
                  refine ⟨(below_ext_of hE184 hszW), ?_⟩
                  replace hB := below_ext hB hE184 hsz
                  replace hBE := below_ext hBE hE184 hBE.size
                  replace hbx := hbx.ext hE184
                  replace hbz := hbz.ext hE184
                  replace hty_bx := hty_bx.ext hE184
                  replace hty_bz := hty_bz.ext hE184
                  replace hT := hT.ext hE184
                  replace hY := hY.ext hE184
                  replace hb74 := hb74.ext hE184
                  replace hty_b74 := hty_b74.ext hE184
                  replace hszW := Nat.le_trans hszW hE184.size
                  replace hst164 := own_ext hst164 hE184
                  replace ho181 := own_ext ho181 hE184
                  replace ho183 := own_ext ho183 hE184
                  replace hsz := Nat.le_trans hsz hE184.size
                  refine m_last3 rfl rfl rfl (o_call Tryz.call14 rfl (play_ret cap can s0 s1 oa164 oc164 ns aq181 cq181 cs a183 c183 X st0 za zc Y oil lt _ (Row.of_owns hst164) (Row.of_owns ho181) (Row.of_owns ho183) hZ hos hcn hwp hbp hstr hlp) rfl ?_)
                  rintro _ w185 ⟨p1, q1, r1, p2, q2, r2, la, lc, rfl, hLt, hEp⟩
                  replace hB := below_ext hB hEp hsz
                  replace hBE := below_ext hBE hEp hBE.size
                  replace hbx := hbx.ext hEp
                  replace hbz := hbz.ext hEp
                  replace hty_bx := hty_bx.ext hEp
                  replace hty_bz := hty_bz.ext hEp
                  replace hT := hT.ext hEp
                  replace hY := hY.ext hEp
                  replace hb74 := hb74.ext hEp
                  replace hty_b74 := hty_b74.ext hEp
                  replace hszW := Nat.le_trans hszW hEp.size
                  replace hst164 := own_ext hst164 hEp
                  replace hZ := hZ.ext hEp
                  replace hsz := Nat.le_trans hsz hEp.size
                  refine m_q3 rfl rfl (fun w' hC' => q_move (v := .tuple _) rfl rfl) (m_q3 rfl rfl (fun w' hC' => q_extract (vs := [_, _, _, _]) (v := .slice _ _ _) rfl rfl rfl) (m_q3 rfl rfl (fun w' hC' => q_extract (vs := [_, _, _, _]) (v := .slice _ _ _) rfl rfl rfl) (m_q3 rfl rfl (fun w' hC' => q_extract (vs := [_, _, _, _]) (v := .slice _ _ _) rfl rfl rfl) (m_q3 rfl rfl (fun w' hC' => q_extract (vs := [_, _, _, _]) (v := .int _ _) rfl rfl rfl) (m_q3 rfl rfl (fun w' hC' => qas rfl rfl) (m_q3 rfl rfl (fun w' hC' => qas rfl rfl) (m_q3 rfl rfl (fun w' hC' => qas rfl rfl) (m_q3 rfl rfl (fun w' hC' => qai rfl rfl) (m_nil3 (r_forget [(4, .int _ _), (5, .pointer _), (14, .pointer _), (15, .pointer _), (20, .slice _ _ _), (21, .int _ _)] ⟨rfl, rfl, rfl, rfl, rfl, rfl, trivial⟩ (fun e186 => ?_)))))))))))
                  exact hj77 (la, lc) _ _ ⟨⟨rfl, rfl, rfl, rfl, rfl, rfl, trivial⟩, hLt, hBE, hbx, hbz, hty_bx, hty_bz, hT, hY, hb74, hty_b74, hsz, hB⟩
                 ·
                  have hbl_b1 := (hb1.ext (Ext.of_below hBE)).lt
                  have hbl_b2 := (hb2.ext (Ext.of_below hBE)).lt
                  have hbl_b3 := (hb3.ext (Ext.of_below hBE)).lt
                  have hbl_bx := hbx.lt
                  have hbl_bz := hbz.lt
                  have hbl_b74 := hb74.lt
                  have hszf187 := hBE.size
                  have hbo_b177 := (ho177.lt b177 rfl).2
                  refine m_o3 rfl rfl (o_append_at (f := vint) [] (cs) Tryz.underlying27 el3 rfl rfl ho177 rfl (hcs.below hB) (by omega) (fun _ => rfl) (by (try simp only [List.length_append, List.length_cons, List.length_nil]); omega) hszW rfl ?_)
                  intro aq188 cq188 w188 hz188 ho188 hG188 hq188
                  refine ⟨(below_own_of hG188 ho177 (by omega) hszW), ?_⟩
                  replace hB := below_own hB hG188 ho177 (by omega) hsz
                  replace hsz := Nat.le_trans hsz hG188.size
                  replace hBE := below_own hBE hG188 ho177 (by first | exact Nat.le_refl _ | omega) hBE.size
                  replace hbx := hbx.step hG188 (own_ty_ne ho177 hty_bx (by decide))
                  replace hbz := hbz.step hG188 (own_ty_ne ho177 hty_bz (by decide))
                  replace hT := TwoI.low hT hT1 hT2 ho177 hG188
                  replace hY := row_lowv hY hltY7 ho177 hG188
                  replace hb74 := hb74.step hG188 (own_ty_ne ho177 hty_b74 (by decide))
                  replace hszW := Nat.le_trans hszW hG188.size
                  replace hst164 := own_kept hst164 ho177 (by decide) hG188
                  replace hty_bx := TyAt.own hty_bx ho177 hG188 (by decide)
                  replace hty_bz := TyAt.own hty_bz ho177 hG188 (by decide)
                  replace hty_b74 := TyAt.own hty_b74 ho177 hG188 (by decide)
                  have hbl_b1 := (hb1.ext (Ext.of_below hBE)).lt
                  have hbl_b2 := (hb2.ext (Ext.of_below hBE)).lt
                  have hbl_b3 := (hb3.ext (Ext.of_below hBE)).lt
                  have hbl_bx := hbx.lt
                  have hbl_bz := hbz.lt
                  have hbl_b74 := hb74.lt
                  have hszf189 := hBE.size
                  refine m_o3 rfl rfl (o_buildSlice (el := 3) (cs := []) Tryz.underlying27 el3 (by decide) (by kernel_rfl) rfl (by decide) rfl ?_)
                  intro b190 w190 hzl190 hzr190 _ hb190 hE190 ho190
                  refine ⟨(below_ext_of hE190 hszW), ?_⟩
                  have hne_b1_b190 : b1 ≠ b190 := by have := (hb1.ext (Ext.of_below hBE)).lt; omega
                  have hne_b2_b190 : b2 ≠ b190 := by have := (hb2.ext (Ext.of_below hBE)).lt; omega
                  have hne_b3_b190 : b3 ≠ b190 := by have := (hb3.ext (Ext.of_below hBE)).lt; omega
                  have hne_bx_b190 : bx ≠ b190 := by have := hbx.lt; omega
                  have hne_bz_b190 : bz ≠ b190 := by have := hbz.lt; omega
                  have hne_b74_b190 : b74 ≠ b190 := by have := hb74.lt; omega
                  have hno_hst164_b190 : ∀ g, (Value.slice oa164 ns.length oc164).ownBlock = some g → g ≠ b190 := fun g hg => by have := (hst164.lt g hg).2; omega
                  have hno_ho188_b190 : ∀ g, (Value.slice aq188 (([] ++ cs).length) cq188).ownBlock = some g → g ≠ b190 := fun g hg => by have := (ho188.lt g hg).2; omega
                  have hbs_b190 : w.heap.size ≤ b190 := Nat.le_trans hsz hzl190
                  have hWp_b190 := hszW
                  have hbW_b190 := Nat.le_trans hszW hzl190
                  replace hB := below_ext hB hE190 hsz
                  replace hBE := below_ext hBE hE190 hBE.size
                  replace hbx := hbx.ext hE190
                  replace hbz := hbz.ext hE190
                  replace hty_bx := hty_bx.ext hE190
                  replace hty_bz := hty_bz.ext hE190
                  replace hT := hT.ext hE190
                  replace hY := hY.ext hE190
                  replace hb74 := hb74.ext hE190
                  replace hty_b74 := hty_b74.ext hE190
                  replace hszW := Nat.le_trans hszW hE190.size
                  replace hst164 := own_ext hst164 hE190
                  replace ho188 := own_ext ho188 hE190
                  replace hsz := Nat.le_trans hsz hE190.size
                  replace ho190 := own_mono ho190 (show w75.heap.size ≤ _ by omega)
                  have hbl_b1 := (hb1.ext (Ext.of_below hBE)).lt
                  have hbl_b2 := (hb2.ext (Ext.of_below hBE)).lt
                  have hbl_b3 := (hb3.ext (Ext.of_below hBE)).lt
                  have hbl_bx := hbx.lt
                  have hbl_bz := hbz.lt
                  have hbl_b74 := hb74.lt
                  have hszf191 := hBE.size
                  have hbo_b190 := (ho190.lt b190 rfl).2
                  refine m_o3 rfl rfl (o_append_map (f := vint) ([]) (X) Tryz.underlying27 el3 rfl rfl ho190 rfl (hX.ext (Ext.of_below hBE)) (fun _ => rfl) (by (try simp only [List.length_append, List.length_cons, List.length_nil, List.length_take, List.length_drop, List.length_replicate]); omega) (by omega) rfl ?_)
                  intro a192 c192 w192 hz192 ho192 hG192
                  refine ⟨(below_own_of hG192 ho190 (by omega) hszW), ?_⟩
                  replace hB := below_own hB hG192 ho190 (by omega) hsz
                  replace hsz := Nat.le_trans hsz hG192.size
                  replace hBE := below_own hBE hG192 ho190 (by first | exact Nat.le_refl _ | omega) hBE.size
                  replace hbx := hbx.step hG192 (own_ty_ne ho190 hty_bx (by decide))
                  replace hbz := hbz.step hG192 (own_ty_ne ho190 hty_bz (by decide))
                  replace hT := TwoI.low hT hT1 hT2 ho190 hG192
                  replace hY := row_lowv hY hltY7 ho190 hG192
                  replace hb74 := hb74.step hG192 (own_ty_ne ho190 hty_b74 (by decide))
                  replace hszW := Nat.le_trans hszW hG192.size
                  replace hst164 := own_kept hst164 ho190 (by decide) hG192
                  replace ho188 := own_updne (b := b190) ho188 hG192 hno_ho188_b190
                  replace hty_bx := TyAt.own hty_bx ho190 hG192 (by decide)
                  replace hty_bz := TyAt.own hty_bz ho190 hG192 (by decide)
                  replace hty_b74 := TyAt.own hty_b74 ho190 hG192 (by decide)
                  refine m_q3 rfl rfl (fun w' hC' => q_build (v := .agg ⟨[.slice aq188 (([] ++ cs).length) cq188, .slice a192 (([] ++ X).length) c192]⟩) (fun w => by kernel_rfl) rfl) (m_o3 rfl rfl (o_call Tryz.call15 rfl (truth8_ret st0 ta tc Y _ hY hYl) rfl ?_))
                  rintro _ w193 ⟨za, zc, rfl, hZ, hE193⟩
                  refine ⟨(below_ext_of hE193 hszW), ?_⟩
                  replace hB := below_ext hB hE193 hsz
                  replace hBE := below_ext hBE hE193 hBE.size
                  replace hbx := hbx.ext hE193
                  replace hbz := hbz.ext hE193
                  replace hty_bx := hty_bx.ext hE193
                  replace hty_bz := hty_bz.ext hE193
                  replace hT := hT.ext hE193
                  replace hY := hY.ext hE193
                  replace hb74 := hb74.ext hE193
                  replace hty_b74 := hty_b74.ext hE193
                  replace hszW := Nat.le_trans hszW hE193.size
                  replace hst164 := own_ext hst164 hE193
                  replace ho188 := own_ext ho188 hE193
                  replace ho192 := own_ext ho192 hE193
                  replace hsz := Nat.le_trans hsz hE193.size
                  refine m_last3 rfl rfl rfl (o_call Tryz.call14 rfl (play_ret cap can s0 s1 oa164 oc164 ns aq188 cq188 cs a192 c192 X st0 za zc Y oil lt _ (Row.of_owns hst164) (Row.of_owns ho188) (Row.of_owns ho192) hZ hos hcn hwp hbp hstr hlp) rfl ?_)
                  rintro _ w194 ⟨p1, q1, r1, p2, q2, r2, la, lc, rfl, hLt, hEp⟩
                  replace hB := below_ext hB hEp hsz
                  replace hBE := below_ext hBE hEp hBE.size
                  replace hbx := hbx.ext hEp
                  replace hbz := hbz.ext hEp
                  replace hty_bx := hty_bx.ext hEp
                  replace hty_bz := hty_bz.ext hEp
                  replace hT := hT.ext hEp
                  replace hY := hY.ext hEp
                  replace hb74 := hb74.ext hEp
                  replace hty_b74 := hty_b74.ext hEp
                  replace hszW := Nat.le_trans hszW hEp.size
                  replace hsz := Nat.le_trans hsz hEp.size
                  refine m_q3 rfl rfl (fun w' hC' => q_move (v := .tuple _) rfl rfl) (m_q3 rfl rfl (fun w' hC' => q_extract (vs := [_, _, _, _]) (v := .slice _ _ _) rfl rfl rfl) (m_q3 rfl rfl (fun w' hC' => q_extract (vs := [_, _, _, _]) (v := .slice _ _ _) rfl rfl rfl) (m_q3 rfl rfl (fun w' hC' => q_extract (vs := [_, _, _, _]) (v := .slice _ _ _) rfl rfl rfl) (m_q3 rfl rfl (fun w' hC' => q_extract (vs := [_, _, _, _]) (v := .int _ _) rfl rfl rfl) (m_q3 rfl rfl (fun w' hC' => qas rfl rfl) (m_q3 rfl rfl (fun w' hC' => qas rfl rfl) (m_q3 rfl rfl (fun w' hC' => qas rfl rfl) (m_q3 rfl rfl (fun w' hC' => qai rfl rfl) (m_nil3 (r_forget [(4, .int _ _), (5, .pointer _), (14, .pointer _), (15, .pointer _), (20, .slice _ _ _), (21, .int _ _)] ⟨rfl, rfl, rfl, rfl, rfl, rfl, trivial⟩ (fun e195 => ?_)))))))))))
                  exact hj77 (la, lc) _ _ ⟨⟨rfl, rfl, rfl, rfl, rfl, rfl, trivial⟩, hLt, hBE, hbx, hbz, hty_bx, hty_bz, hT, hY, hb74, hty_b74, hsz, hB⟩
        · intro hj30
          have hszR : w.heap.size ≤ w28.heap.size := hsz
          have hszW : w28.heap.size ≤ w28.heap.size := Nat.le_refl _
          have hltR_b1 := (hb1.ext (Ext.of_below hBE)).lt
          have hltR_b2 := (hb2.ext (Ext.of_below hBE)).lt
          have hltR_b3 := (hb3.ext (Ext.of_below hBE)).lt
          have hszF := hBE.size
          refine r_draw3 (Below.refl w28.heap.size) (fun _ _ _ h1 h2 => h1.trans h2) (.op 0 (.op 1 (.fork 3 (.op 2 (.op 4 (.op 5 (.done)))) (.op 2 (.op 3 (.op 4 (.op 5 (.done)))))))) [2, 3, 4, 5] 20 (by kernel_rfl) (by kernel_rfl) ?_
          intro w196 _ hE196
          replace hB := below_ext hB hE196 hsz
          replace hBE := below_ext hBE hE196 hBE.size
          replace hszW := Nat.le_trans hszW hE196.size
          replace hsz := Nat.le_trans hsz hE196.size
          refine m_q3 rfl rfl (fun w' hC' => q_load_agg (n := 3) Tryz.isAgg33 Tryz.sizeOf33 rfl ((((hb3.ext (Ext.of_below hBE)).keep (hC'.block _ hltR_b3)).cells' (cs' := [_, _, _]) 0 3 rfl)) rfl rfl) (m_q3 rfl rfl (fun w' hC' => q_load_agg (n := 3) Tryz.isAgg33 Tryz.sizeOf33 rfl ((((hb3.ext (Ext.of_below hBE)).keep (hC'.block _ hltR_b3)).cells' (cs' := [_, _, _]) 0 3 rfl)) rfl rfl) (m_fork3 ?_ ?_))
          ·
           refine m_o3 rfl rfl (o_alloct Tryz.zeroValue33 rfl rfl ?_)
           intro b197 w197 hzl197 hzr197 _ hb197 hty_b197 hE197
           refine ⟨(below_ext_of hE197 hszW), ?_⟩
           have hne_b1_b197 : b1 ≠ b197 := by have := (hb1.ext (Ext.of_below hBE)).lt; omega
           have hne_b2_b197 : b2 ≠ b197 := by have := (hb2.ext (Ext.of_below hBE)).lt; omega
           have hne_b3_b197 : b3 ≠ b197 := by have := (hb3.ext (Ext.of_below hBE)).lt; omega
           have hbs_b197 : w.heap.size ≤ b197 := Nat.le_trans hsz hzl197
           have hWp_b197 := hszW
           have hbW_b197 := Nat.le_trans hszW hzl197
           replace hB := below_ext hB hE197 hsz
           replace hBE := below_ext hBE hE197 hBE.size
           replace hszW := Nat.le_trans hszW hE197.size
           replace hsz := Nat.le_trans hsz hE197.size
           refine m_o3 rfl rfl (o_alloct Tryz.zeroValue33 rfl rfl ?_)
           intro b198 w198 hzl198 hzr198 _ hb198 hty_b198 hE198
           refine ⟨(below_ext_of hE198 hszW), ?_⟩
           have hne_b1_b198 : b1 ≠ b198 := by have := (hb1.ext (Ext.of_below hBE)).lt; omega
           have hne_b2_b198 : b2 ≠ b198 := by have := (hb2.ext (Ext.of_below hBE)).lt; omega
           have hne_b3_b198 : b3 ≠ b198 := by have := (hb3.ext (Ext.of_below hBE)).lt; omega
           have hne_b197_b198 : b197 ≠ b198 := by have := hb197.lt; omega
           have hbs_b198 : w.heap.size ≤ b198 := Nat.le_trans hsz hzl198
           have hWp_b198 := hszW
           have hbW_b198 := Nat.le_trans hszW hzl198
           replace hB := below_ext hB hE198 hsz
           replace hBE := below_ext hBE hE198 hBE.size
           replace hszW := Nat.le_trans hszW hE198.size
           replace hb197 := hb197.ext hE198
           replace hty_b197 := hty_b197.ext hE198
           replace hsz := Nat.le_trans hsz hE198.size
           refine m_o3 rfl rfl (o_storet (vs := [.slice na nd.length nc, .slice pa pl.length pc, .slice ca L.length cc]) (cs' := [.slice na nd.length nc, .slice pa pl.length pc, .slice ca L.length cc]) Tryz.sizeOf33 rfl rfl rfl rfl hb198 (Nat.le_of_ble_eq_true rfl) rfl rfl ?_)
           intro w199 hz199 hb198 hT199 hG199
           refine ⟨(below_upd_of hG199 hbW_b198 hszW), ?_⟩
           replace hB := below_upd hB hG199 hsz (by omega)
           replace hsz : w.heap.size ≤ w199.heap.size := by rw [hz199]; exact hsz
           replace hBE := below_upd hBE hG199 hBE.size (by omega)
           replace hszW := Nat.le_trans hszW hG199.size
           replace hb197 := hb197.upd hG199 (by omega)
           replace hty_b197 := hty_b197.upd hG199 (by omega)
           replace hty_b198 := hT199 _ hty_b198
           refine m_o3 rfl rfl (o_storet (vs := [.slice na nd.length nc, .slice pa pl.length pc, .slice ca L.length cc]) (cs' := [.slice na nd.length nc, .slice pa pl.length pc, .slice ca L.length cc]) Tryz.sizeOf33 rfl rfl rfl rfl hb197 (Nat.le_of_ble_eq_true rfl) rfl rfl ?_)
           intro w200 hz200 hb197 hT200 hG200
           refine ⟨(below_upd_of hG200 hbW_b197 hszW), ?_⟩
           replace hB := below_upd hB hG200 hsz (by omega)
           replace hsz : w.heap.size ≤ w200.heap.size := by rw [hz200]; exact hsz
           replace hBE := below_upd hBE hG200 hBE.size (by omega)
           replace hszW := Nat.le_trans hszW hG200.size
           replace hb198 := hb198.upd hG200 (by omega)
           replace hty_b198 := hty_b198.upd hG200 (by omega)
           replace hty_b197 := hT200 _ hty_b197
           refine m_nil3 (r_forget [(3, .slice _ _ _), (4, .int _ _), (5, .pointer _), (6, .pointer _), (11, .slice _ _ _), (14, .pointer _), (15, .pointer _)] ⟨rfl, rfl, rfl, rfl, rfl, rfl, rfl, trivial⟩ (fun e201 => ?_))
           exact hj30 (b198, b197) _ _ ⟨⟨rfl, rfl, rfl, rfl, rfl, rfl, rfl, trivial⟩, (by omega), (by omega), (by omega), (by omega), (by omega), hb198, hb197, hty_b198, hty_b197, hBE, hsz, hB⟩
          ·
           refine m_o3 rfl rfl (o_alloct Tryz.zeroValue33 rfl rfl ?_)
           intro b202 w202 hzl202 hzr202 _ hb202 hty_b202 hE202
           refine ⟨(below_ext_of hE202 hszW), ?_⟩
           have hne_b1_b202 : b1 ≠ b202 := by have := (hb1.ext (Ext.of_below hBE)).lt; omega
           have hne_b2_b202 : b2 ≠ b202 := by have := (hb2.ext (Ext.of_below hBE)).lt; omega
           have hne_b3_b202 : b3 ≠ b202 := by have := (hb3.ext (Ext.of_below hBE)).lt; omega
           have hbs_b202 : w.heap.size ≤ b202 := Nat.le_trans hsz hzl202
           have hWp_b202 := hszW
           have hbW_b202 := Nat.le_trans hszW hzl202
           replace hB := below_ext hB hE202 hsz
           replace hBE := below_ext hBE hE202 hBE.size
           replace hszW := Nat.le_trans hszW hE202.size
           replace hsz := Nat.le_trans hsz hE202.size
           refine m_o3 rfl rfl (o_alloct Tryz.zeroValue33 rfl rfl ?_)
           intro b203 w203 hzl203 hzr203 _ hb203 hty_b203 hE203
           refine ⟨(below_ext_of hE203 hszW), ?_⟩
           have hne_b1_b203 : b1 ≠ b203 := by have := (hb1.ext (Ext.of_below hBE)).lt; omega
           have hne_b2_b203 : b2 ≠ b203 := by have := (hb2.ext (Ext.of_below hBE)).lt; omega
           have hne_b3_b203 : b3 ≠ b203 := by have := (hb3.ext (Ext.of_below hBE)).lt; omega
           have hne_b202_b203 : b202 ≠ b203 := by have := hb202.lt; omega
           have hbs_b203 : w.heap.size ≤ b203 := Nat.le_trans hsz hzl203
           have hWp_b203 := hszW
           have hbW_b203 := Nat.le_trans hszW hzl203
           replace hB := below_ext hB hE203 hsz
           replace hBE := below_ext hBE hE203 hBE.size
           replace hszW := Nat.le_trans hszW hE203.size
           replace hb202 := hb202.ext hE203
           replace hty_b202 := hty_b202.ext hE203
           replace hsz := Nat.le_trans hsz hE203.size
           refine m_o3 rfl rfl (o_storet (vs := [.slice na nd.length nc, .slice pa pl.length pc, .slice ca L.length cc]) (cs' := [.slice na nd.length nc, .slice pa pl.length pc, .slice ca L.length cc]) Tryz.sizeOf33 rfl rfl rfl rfl hb202 (Nat.le_of_ble_eq_true rfl) rfl rfl ?_)
           intro w204 hz204 hb202 hT204 hG204
           refine ⟨(below_upd_of hG204 hbW_b202 hszW), ?_⟩
           replace hB := below_upd hB hG204 hsz (by omega)
           replace hsz : w.heap.size ≤ w204.heap.size := by rw [hz204]; exact hsz
           replace hBE := below_upd hBE hG204 hBE.size (by omega)
           replace hszW := Nat.le_trans hszW hG204.size
           replace hb203 := hb203.upd hG204 (by omega)
           replace hty_b203 := hty_b203.upd hG204 (by omega)
           replace hty_b202 := hT204 _ hty_b202
           refine m_o3 rfl rfl (o_storet (vs := [.slice na nd.length nc, .slice pa pl.length pc, .slice ca L.length cc]) (cs' := [.slice na nd.length nc, .slice pa pl.length pc, .slice ca L.length cc]) Tryz.sizeOf33 rfl rfl rfl rfl hb203 (Nat.le_of_ble_eq_true rfl) rfl rfl ?_)
           intro w205 hz205 hb203 hT205 hG205
           refine ⟨(below_upd_of hG205 hbW_b203 hszW), ?_⟩
           replace hB := below_upd hB hG205 hsz (by omega)
           replace hsz : w.heap.size ≤ w205.heap.size := by rw [hz205]; exact hsz
           replace hBE := below_upd hBE hG205 hBE.size (by omega)
           replace hszW := Nat.le_trans hszW hG205.size
           replace hb202 := hb202.upd hG205 (by omega)
           replace hty_b202 := hty_b202.upd hG205 (by omega)
           replace hty_b203 := hT205 _ hty_b203
           refine m_nil3 (r_forget [(3, .slice _ _ _), (4, .int _ _), (5, .pointer _), (6, .pointer _), (11, .slice _ _ _), (14, .pointer _), (15, .pointer _)] ⟨rfl, rfl, rfl, rfl, rfl, rfl, rfl, trivial⟩ (fun e206 => ?_))
           exact hj30 (b202, b203) _ _ ⟨⟨rfl, rfl, rfl, rfl, rfl, rfl, rfl, trivial⟩, (by omega), (by omega), (by omega), (by omega), (by omega), hb202, hb203, hty_b202, hty_b203, hBE, hsz, hB⟩
      · intro hj23
        refine r_draw3 ext_refl' ext_trans' (.op 0 (.op 3 (.op 4 (.fork 2 (.op 1 (.op 5 (.op 6 (.op 7 (.op 8 (.op 9 (.op 10 (.op 11 (.op 12 (.op 13 (.done))))))))))) (.op 1 (.op 2 (.op 5 (.op 6 (.op 7 (.op 8 (.op 9 (.op 10 (.op 11 (.op 12 (.op 13 (.done)))))))))))))))) [1, 2, 5, 6, 1005, 1006] 20 (by kernel_rfl) (by kernel_rfl) ?_
        intro w207 _ hE207
        replace hB := below_ext hB hE207 hsz
        replace hb1 := hb1.ext hE207
        replace hty_b1 := hty_b1.ext hE207
        replace hb2 := hb2.ext hE207
        replace hty_b2 := hty_b2.ext hE207
        replace hb3 := hb3.ext hE207
        replace hty_b3 := hty_b3.ext hE207
        replace hsz := Nat.le_trans hsz hE207.size
        refine m_q3 rfl rfl (fun w' hC' => q_load_agg (n := 5) Tryz.isAgg26 Tryz.sizeOf26 rfl (((hb1.cells' (cs' := [_, _, _, _, _]) 0 5 rfl).ext hC')) rfl rfl) (m_q3 rfl rfl (fun w' hC' => q_fieldAddr (o' := 0) rfl fld29_0 rfl) (m_q3 rfl rfl (fun w' hC' => q_load Tryz.isAgg27 rfl (((hb2.has (o := 0) rfl).ext hC')) rfl) (m_fork3 ?_ ?_)))
        ·
         have hs61 := hsz
         have hbl_b1 := hb1.lt
         have hbl_b2 := hb2.lt
         have hbl_b3 := hb3.lt
         refine m_o3 rfl rfl (o_buildSlice (el := 3) (cs := []) Tryz.underlying27 el3 (by decide) (by kernel_rfl) rfl (by decide) rfl ?_)
         intro b208 w208 hzl208 hzr208 _ hb208 hE208 ho208
         refine ⟨hE208, ?_⟩
         have hne_b1_b208 : b1 ≠ b208 := by have := hb1.lt; omega
         have hne_b2_b208 : b2 ≠ b208 := by have := hb2.lt; omega
         have hne_b3_b208 : b3 ≠ b208 := by have := hb3.lt; omega
         have hbs_b208 : w.heap.size ≤ b208 := Nat.le_trans hsz hzl208
         replace hB := below_ext hB hE208 hsz
         replace hb1 := hb1.ext hE208
         replace hty_b1 := hty_b1.ext hE208
         replace hb2 := hb2.ext hE208
         replace hty_b2 := hty_b2.ext hE208
         replace hb3 := hb3.ext hE208
         replace hty_b3 := hty_b3.ext hE208
         replace hsz := Nat.le_trans hsz hE208.size
         replace ho208 := own_mono ho208 (show w.heap.size ≤ _ by omega)
         refine m_o3 rfl rfl (o_call Tryz.call10 rfl (store8_ret cap can s0 s1 sa sc ns _ (hns.below hB) hsl) rfl ?_)
         rintro _ w209 ⟨oa209, oc209, rfl, hst209, hE209⟩
         replace hst209 := own_mono hst209 (show w.heap.size ≤ _ by omega)
         refine ⟨hE209, ?_⟩
         replace hB := below_ext hB hE209 hsz
         replace hb1 := hb1.ext hE209
         replace hty_b1 := hty_b1.ext hE209
         replace hb2 := hb2.ext hE209
         replace hty_b2 := hty_b2.ext hE209
         replace hb3 := hb3.ext hE209
         replace hty_b3 := hty_b3.ext hE209
         replace ho208 := own_ext ho208 hE209
         replace hsz := Nat.le_trans hsz hE209.size
         have hbl_b1 := hb1.lt
         have hbl_b2 := hb2.lt
         have hbl_b3 := hb3.lt
         refine m_last3 rfl rfl rfl (o_append_map (f := vint) ([]) (cs) Tryz.underlying27 el3 rfl rfl ho208 rfl (hcs.below hB) (fun _ => rfl) (by (try simp only [List.length_append, List.length_cons, List.length_nil, List.length_take, List.length_drop, List.length_replicate]); omega) (by omega) rfl ?_)
         intro a210 c210 w210 hz210 ho210 hG210
         replace hB := below_own hB hG210 ho208 (by omega) hsz
         replace hsz := Nat.le_trans hsz hG210.size
         replace hb1 := hb1.step hG210 (own_ty_ne ho208 hty_b1 (by decide))
         replace hb2 := hb2.step hG210 (own_ty_ne ho208 hty_b2 (by decide))
         replace hb3 := hb3.step hG210 (own_ty_ne ho208 hty_b3 (by decide))
         replace hst209 := own_kept hst209 ho208 (by decide) hG210
         replace hty_b1 := TyAt.own hty_b1 ho208 hG210 (by decide)
         replace hty_b2 := TyAt.own hty_b2 ho208 hG210 (by decide)
         replace hty_b3 := TyAt.own hty_b3 ho208 hG210 (by decide)
         refine m_last3 rfl rfl rfl (o_call Tryz.call9 rfl (trim_ret cap can s0 s1 oa209 oc209 ns a210 c210 cs _ (Row.of_owns hst209) (Row.of_owns ho210) hos hcn) rfl ?_)
         rintro _ w211 ⟨⟨ra, rc, X, lt, er, rfl, hX, heT, hpT⟩, hEt⟩
         replace hB := below_ext hB hEt hsz
         replace hb1 := hb1.ext hEt
         replace hty_b1 := hty_b1.ext hEt
         replace hb2 := hb2.ext hEt
         replace hty_b2 := hty_b2.ext hEt
         replace hb3 := hb3.ext hEt
         replace hty_b3 := hty_b3.ext hEt
         replace hsz := Nat.le_trans hsz hEt.size
         refine m_q3 rfl rfl (fun w' hC' => q_move (v := .tuple _) rfl rfl) (m_q3 rfl rfl (fun w' hC' => q_extract (vs := [_, _, _]) (v := .slice _ _ _) rfl rfl rfl) (m_q3 rfl rfl (fun w' hC' => q_extract (vs := [_, _, _]) (v := .int _ _) rfl rfl rfl) (m_q3 rfl rfl (fun w' hC' => q_extract (vs := [_, _, _]) (v := .int _ _) rfl rfl rfl) (m_q3 rfl rfl (fun w' hC' => qas rfl rfl) (m_q3 rfl rfl (fun w' hC' => qai rfl rfl) (m_q3 rfl rfl (fun w' hC' => qai rfl rfl) (m_nil3 (r_forget [(3, .slice _ _ _), (4, .int _ _), (5, .pointer _), (6, .pointer _), (7, .pointer _), (11, .slice _ _ _), (13, .int _ _)] ⟨rfl, rfl, rfl, rfl, rfl, rfl, rfl, trivial⟩ (fun e212 => ?_)))))))))
         exact hj23 ⟨ra, rc, X, lt, er⟩ _ _ ⟨⟨rfl, rfl, rfl, rfl, rfl, rfl, rfl, trivial⟩, heT, hpT, hX, hb1, hty_b1, hb2, hty_b2, hb3, hty_b3, hsz, hB⟩
        ·
         refine m_o3 rfl rfl (o_call Tryz.call10 rfl (store8_ret cap can s0 s1 sa sc ns _ (hns.below hB) hsl) rfl ?_)
         rintro _ w213 ⟨oa213, oc213, rfl, hst213, hE213⟩
         replace hst213 := own_mono hst213 (show w.heap.size ≤ _ by omega)
         refine ⟨hE213, ?_⟩
         replace hB := below_ext hB hE213 hsz
         replace hb1 := hb1.ext hE213
         replace hty_b1 := hty_b1.ext hE213
         replace hb2 := hb2.ext hE213
         replace hty_b2 := hty_b2.ext hE213
         replace hb3 := hb3.ext hE213
         replace hty_b3 := hty_b3.ext hE213
         replace hsz := Nat.le_trans hsz hE213.size
         have hs61 := hsz
         have hbl_b1 := hb1.lt
         have hbl_b2 := hb2.lt
         have hbl_b3 := hb3.lt
         refine m_o3 rfl rfl (o_buildSlice (el := 3) (cs := []) Tryz.underlying27 el3 (by decide) (by kernel_rfl) rfl (by decide) rfl ?_)
         intro b214 w214 hzl214 hzr214 _ hb214 hE214 ho214
         refine ⟨hE214, ?_⟩
         have hne_b1_b214 : b1 ≠ b214 := by have := hb1.lt; omega
         have hne_b2_b214 : b2 ≠ b214 := by have := hb2.lt; omega
         have hne_b3_b214 : b3 ≠ b214 := by have := hb3.lt; omega
         have hbs_b214 : w.heap.size ≤ b214 := Nat.le_trans hsz hzl214
         replace hB := below_ext hB hE214 hsz
         replace hb1 := hb1.ext hE214
         replace hty_b1 := hty_b1.ext hE214
         replace hb2 := hb2.ext hE214
         replace hty_b2 := hty_b2.ext hE214
         replace hb3 := hb3.ext hE214
         replace hty_b3 := hty_b3.ext hE214
         replace hst213 := own_ext hst213 hE214
         replace hsz := Nat.le_trans hsz hE214.size
         replace ho214 := own_mono ho214 (show w.heap.size ≤ _ by omega)
         have hbl_b1 := hb1.lt
         have hbl_b2 := hb2.lt
         have hbl_b3 := hb3.lt
         refine m_last3 rfl rfl rfl (o_append_map (f := vint) ([]) (cs) Tryz.underlying27 el3 rfl rfl ho214 rfl (hcs.below hB) (fun _ => rfl) (by (try simp only [List.length_append, List.length_cons, List.length_nil, List.length_take, List.length_drop, List.length_replicate]); omega) (by omega) rfl ?_)
         intro a215 c215 w215 hz215 ho215 hG215
         replace hB := below_own hB hG215 ho214 (by omega) hsz
         replace hsz := Nat.le_trans hsz hG215.size
         replace hb1 := hb1.step hG215 (own_ty_ne ho214 hty_b1 (by decide))
         replace hb2 := hb2.step hG215 (own_ty_ne ho214 hty_b2 (by decide))
         replace hb3 := hb3.step hG215 (own_ty_ne ho214 hty_b3 (by decide))
         replace hst213 := own_kept hst213 ho214 (by decide) hG215
         replace hty_b1 := TyAt.own hty_b1 ho214 hG215 (by decide)
         replace hty_b2 := TyAt.own hty_b2 ho214 hG215 (by decide)
         replace hty_b3 := TyAt.own hty_b3 ho214 hG215 (by decide)
         refine m_last3 rfl rfl rfl (o_call Tryz.call9 rfl (trim_ret cap can s0 s1 oa213 oc213 ns a215 c215 cs _ (Row.of_owns hst213) (Row.of_owns ho215) hos hcn) rfl ?_)
         rintro _ w216 ⟨⟨ra, rc, X, lt, er, rfl, hX, heT, hpT⟩, hEt⟩
         replace hB := below_ext hB hEt hsz
         replace hb1 := hb1.ext hEt
         replace hty_b1 := hty_b1.ext hEt
         replace hb2 := hb2.ext hEt
         replace hty_b2 := hty_b2.ext hEt
         replace hb3 := hb3.ext hEt
         replace hty_b3 := hty_b3.ext hEt
         replace hsz := Nat.le_trans hsz hEt.size
         refine m_q3 rfl rfl (fun w' hC' => q_move (v := .tuple _) rfl rfl) (m_q3 rfl rfl (fun w' hC' => q_extract (vs := [_, _, _]) (v := .slice _ _ _) rfl rfl rfl) (m_q3 rfl rfl (fun w' hC' => q_extract (vs := [_, _, _]) (v := .int _ _) rfl rfl rfl) (m_q3 rfl rfl (fun w' hC' => q_extract (vs := [_, _, _]) (v := .int _ _) rfl rfl rfl) (m_q3 rfl rfl (fun w' hC' => qas rfl rfl) (m_q3 rfl rfl (fun w' hC' => qai rfl rfl) (m_q3 rfl rfl (fun w' hC' => qai rfl rfl) (m_nil3 (r_forget [(3, .slice _ _ _), (4, .int _ _), (5, .pointer _), (6, .pointer _), (7, .pointer _), (11, .slice _ _ _), (13, .int _ _)] ⟨rfl, rfl, rfl, rfl, rfl, rfl, rfl, trivial⟩ (fun e217 => ?_)))))))))
         exact hj23 ⟨ra, rc, X, lt, er⟩ _ _ ⟨⟨rfl, rfl, rfl, rfl, rfl, rfl, rfl, trivial⟩, heT, hpT, hX, hb1, hty_b1, hb2, hty_b2, hb3, hty_b3, hsz, hB⟩
end Go.Proofs.YtbikicakdkbcgabGreat
