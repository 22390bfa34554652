/- Contracts. -/
import Derived.Test.YtgdanglidienmaaGreatRM
set_option linter.unusedVariables false
set_option linter.unusedSimpArgs false
namespace Go.Proofs.YtgdanglidienmaaGreat
open Go Go.RowKit Go.Gv Go.Fl


theorem rotaMirrors_ret (fl : Int) (ga : Option Addr) (gc : Nat) (G : List RG) (xa : Option Addr) (xc : Nat) (xs : List Int) (w : World) (hG : Row w ga G.length gc 2 (G.flatMap RG.enc)) (hGn : G.length ≤ 2097152) (hx : Row w xa xs.length xc 1 (xs.map vint)) (hxn : xs.length ≤ 2097152) : Ret Tryz.prog 6 [.agg ⟨[vint fl, .slice ga G.length gc]⟩, .slice xa xs.length xc] w (fun v w' => v = .bool true ∧ Ext w w') := by
 have hB := Below.refl w.heap.size w
 have hsz : w.heap.size ≤ w.heap.size := Nat.le_refl _
 refine ret_of_runs (args := [_, _]) Tryz.func6 rfl (Nat.le_of_ble_eq_true rfl) (by kernel_rfl) ?_
 refine r_seq (r_region' ?_)
 refine l_o (o_box rfl rfl rfl ?_)
 intro b1 w1 hzl1 hzr1 _ hb1 hE1
 have hbs_b1 : w.heap.size ≤ b1 := Nat.le_trans hsz hzl1
 replace hB := below_ext hB hE1 hsz
 replace hsz := Nat.le_trans hsz hE1.size
 refine l_q (q_assign (v := .bool _) rfl rfl) ?_
 refine l_nil (r_seq (r_seq (r_region' ?_)))
 refine l_q (q_fieldAddr (o' := 1) rfl fld51_1 rfl) ?_
 refine l_q (q_load Tryz.isAgg49 rfl ((hb1.has (o := 1) rfl)) rfl) ?_
 refine l_q (q_len rfl Tryz.underlying49 rfl rfl) ?_
 refine l_q (q_gtr rfl rfl rfl) ?_
 refine l_q (q_move (v := .bool _) rfl rfl) ?_
 refine l_part 20 rfl (fun hc2 => ?_) (fun hc2 => ?_)
 ·
  replace hc2 := dt hc2
  refine l_q (q_skip rfl) ?_
  refine l_q (q_skip rfl) ?_
  refine l_q (q_skip rfl) ?_
  refine l_q (q_pick_t (v := .bool _) rfl rfl rfl) ?_
  refine l_nil ?_
  refine r_forget [(1, .slice _ _ _), (2, .pointer _), (24, .bool _)] ⟨rfl, rfl, rfl, trivial⟩ (fun e3 => ?_)
  refine r_cond_t rfl ?_
  refine r_seq (r_region' ?_)
  refine l_o (o_call Tryz.call17 rfl (awake_ret _) rfl ?_)
  rintro _ w4 ⟨rfl, hE4⟩
  replace hB := below_ext hB hE4 hsz
  replace hb1 := hb1.ext hE4
  replace hsz := Nat.le_trans hsz hE4.size
  refine l_q (q_assign (v := .bool _) rfl rfl) ?_
  refine l_nil ?_
  refine r_ret_ (vs := [.bool _]) rfl Tryz.func6 rfl (.nil _) ⟨rfl, trivial⟩ ?_
  exact ⟨rfl, Ext.of_below hB⟩
 ·
  replace hc2 := dlt hc2
  refine l_q (q_move (v := .slice _ _ _) rfl rfl) ?_
  refine l_q (q_len rfl Tryz.underlying22 rfl rfl) ?_
  refine l_q (q_gtr rfl rfl rfl) ?_
  refine l_q (q_pick_f (v := .bool _) rfl rfl rfl) ?_
  refine l_nil ?_
  refine r_forget [(1, .slice _ _ _), (2, .pointer _), (24, .bool _)] ⟨rfl, rfl, rfl, trivial⟩ (fun e5 => ?_)
  refine r_cond rfl (fun hc6 => ?_) (fun hc6 => ?_)
  ·
   replace hc6 := dt hc6
   refine r_seq (r_region' ?_)
   refine l_o (o_call Tryz.call17 rfl (awake_ret _) rfl ?_)
   rintro _ w7 ⟨rfl, hE7⟩
   replace hB := below_ext hB hE7 hsz
   replace hb1 := hb1.ext hE7
   replace hsz := Nat.le_trans hsz hE7.size
   refine l_q (q_assign (v := .bool _) rfl rfl) ?_
   refine l_nil ?_
   refine r_ret_ (vs := [.bool _]) rfl Tryz.func6 rfl (.nil _) ⟨rfl, trivial⟩ ?_
   exact ⟨rfl, Ext.of_below hB⟩
  ·
   replace hc6 := dlt hc6
   refine r_skip (r_seq (r_region' ?_))
   refine l_q (q_load_agg (n := 2) Tryz.isAgg51 Tryz.sizeOf51 rfl ((hb1.cells' (cs' := [_, _]) 0 2 rfl)) rfl rfl) ?_
   refine l_o (o_call Tryz.call32 rfl (mirror10_ret fl ga gc G _ (hG.below hB) (by omega)) rfl ?_)
   rintro _ w8 ⟨ga8, gc8, rfl, hmr8, hE8⟩
   replace hB := below_ext hB hE8 hsz
   replace hb1 := hb1.ext hE8
   replace hsz := Nat.le_trans hsz hE8.size
   refine l_q (q_move (v := .slice _ _ _) rfl rfl) ?_
   refine l_o (o_call Tryz.call33 rfl (list10_ret _ _ xs _ (hx.below hB) (by omega)) rfl ?_)
   rintro _ w9 ⟨a9_0, c9_0, rfl, ho9_0, hE9⟩
   replace ho9_0 := own_mono ho9_0 (show w.heap.size ≤ _ by omega)
   replace hB := below_ext hB hE9 hsz
   replace hb1 := hb1.ext hE9
   replace hmr8 := hmr8.ext hE9
   replace hsz := Nat.le_trans hsz hE9.size
   refine l_o (o_call Tryz.call31 rfl ((by have h := bright_ret fl ga8 gc8 G a9_0 c9_0 xs _ hmr8 (by omega) (Row.of_owns ho9_0) hxn; exact h)) rfl ?_)
   rintro _ w10 ⟨ba10, bc10, rfl, hbr10, hE10⟩
   replace hB := below_ext hB hE10 hsz
   replace hb1 := hb1.ext hE10
   replace hmr8 := hmr8.ext hE10
   replace ho9_0 := own_ext ho9_0 hE10
   replace hsz := Nat.le_trans hsz hE10.size
   refine l_q (q_move (v := .tuple _) rfl rfl) ?_
   refine l_q (q_extract (vs := [_, _]) (v := .slice _ _ _) rfl rfl rfl) ?_
   refine l_q (q_extract (vs := [_, _]) (v := .int _ _) rfl rfl rfl) ?_
   refine l_q (q_assign (v := .slice _ _ _) rfl rfl) ?_
   refine l_q (q_assign (v := .int _ _) rfl rfl) ?_
   refine l_nil (r_seq (r_region' ?_))
   refine l_q (q_load_agg (n := 2) Tryz.isAgg51 Tryz.sizeOf51 rfl ((hb1.cells' (cs' := [_, _]) 0 2 rfl)) rfl rfl) ?_
   refine l_o (o_call Tryz.call32 rfl (mirror10_ret fl ga gc G _ (hG.below hB) (by omega)) rfl ?_)
   rintro _ w11 ⟨ga11, gc11, rfl, hmr11, hE11⟩
   replace hB := below_ext hB hE11 hsz
   replace hb1 := hb1.ext hE11
   replace hmr8 := hmr8.ext hE11
   replace ho9_0 := own_ext ho9_0 hE11
   replace hbr10 := hbr10.ext hE11
   replace hsz := Nat.le_trans hsz hE11.size
   refine l_o (o_call Tryz.call34 rfl ((by have h := polish_ret fl ga11 gc11 G _ hmr11 (by omega); exact h)) rfl ?_)
   rintro _ w12 ⟨la12, lc12, rfl, hpl12, hE12⟩
   replace hB := below_ext hB hE12 hsz
   replace hb1 := hb1.ext hE12
   replace hmr8 := hmr8.ext hE12
   replace ho9_0 := own_ext ho9_0 hE12
   replace hbr10 := hbr10.ext hE12
   replace hmr11 := hmr11.ext hE12
   replace hsz := Nat.le_trans hsz hE12.size
   refine l_q (q_move (v := .tuple _) rfl rfl) ?_
   refine l_q (q_extract (vs := [_, _]) (v := .slice _ _ _) rfl rfl rfl) ?_
   refine l_q (q_extract (vs := [_, _]) (v := .int _ _) rfl rfl rfl) ?_
   refine l_q (q_assign (v := .slice _ _ _) rfl rfl) ?_
   refine l_q (q_assign (v := .int _ _) rfl rfl) ?_
   refine l_nil ?_
   refine r_forget [(1, .slice _ _ _), (2, .pointer _), (5, .slice _ _ _), (6, .int _ _), (7, .slice _ _ _), (8, .int _ _)] ⟨rfl, rfl, rfl, rfl, rfl, rfl, trivial⟩ (fun e13 => ?_)
   refine r_seq ?_
   refine r_draw ext_refl' ext_trans' [0, 2, 1, 3, 4, 5] [1, 3] 12 (by kernel_rfl) (by kernel_rfl) ?_
   intro w14 _ hE14
   replace hB := below_ext hB hE14 hsz
   replace hb1 := hb1.ext hE14
   replace hmr8 := hmr8.ext hE14
   replace ho9_0 := own_ext ho9_0 hE14
   replace hbr10 := hbr10.ext hE14
   replace hmr11 := hmr11.ext hE14
   replace hpl12 := hpl12.ext hE14
   replace hsz := Nat.le_trans hsz hE14.size
   refine m_q rfl rfl (fun w' hC' => q_load_agg (n := 2) Tryz.isAgg51 Tryz.sizeOf51 rfl (((hb1.cells' (cs' := [_, _]) 0 2 rfl).ext hC')) rfl rfl) ?_
   refine m_q rfl rfl (fun w' hC' => q_load_agg (n := 2) Tryz.isAgg51 Tryz.sizeOf51 rfl (((hb1.cells' (cs' := [_, _]) 0 2 rfl).ext hC')) rfl rfl) ?_
   refine m_o rfl rfl (o_call Tryz.call35 rfl (mfault10_ret fl ga gc G _ (hG.below hB) hGn) rfl ?_)
   rintro _ w15 ⟨rfl, hE15⟩
   refine ⟨hE15, ?_⟩
   replace hB := below_ext hB hE15 hsz
   replace hb1 := hb1.ext hE15
   replace hmr8 := hmr8.ext hE15
   replace ho9_0 := own_ext ho9_0 hE15
   replace hbr10 := hbr10.ext hE15
   replace hmr11 := hmr11.ext hE15
   replace hpl12 := hpl12.ext hE15
   replace hsz := Nat.le_trans hsz hE15.size
   refine m_o rfl rfl (o_call Tryz.call35 rfl (mfault10_ret fl ga gc G _ (hG.below hB) hGn) rfl ?_)
   rintro _ w16 ⟨rfl, hE16⟩
   refine ⟨hE16, ?_⟩
   replace hB := below_ext hB hE16 hsz
   replace hb1 := hb1.ext hE16
   replace hmr8 := hmr8.ext hE16
   replace ho9_0 := own_ext ho9_0 hE16
   replace hbr10 := hbr10.ext hE16
   replace hmr11 := hmr11.ext hE16
   replace hpl12 := hpl12.ext hE16
   replace hsz := Nat.le_trans hsz hE16.size
   refine m_q rfl rfl (fun w' hC' => q_assign (v := .int _ _) rfl rfl) ?_
   refine m_q rfl rfl (fun w' hC' => q_assign (v := .int _ _) rfl rfl) ?_
   refine m_nil ?_
   refine r_seq (r_seq (r_region' ?_))
   refine l_q (q_move (v := .int _ _) rfl rfl) ?_
   refine l_q (q_neq rfl rfl rfl) ?_
   refine l_nil ?_
   refine r_cond rfl (fun hc17 => ?_) (fun hc17 => ?_)
   ·
    replace hc17 := df (nt hc17)
    have hm0 := hc17
    have hbR := br_e (xs := xs) hm0
    have hpR := pm_e hm0
    have hl1 : (brightM fl G xs).2.length = 0 := by rw [hbR]; rfl
    have hl2 : (polishM fl G).2.length = 0 := by rw [hpR]; rfl
    refine r_seq (r_region' ?_)
    refine l_q (q_move (v := .int _ _) rfl rfl) ?_
    refine l_q (q_move (v := .int _ _) rfl rfl) ?_
    refine l_q (q_eql rfl rfl rfl) ?_
    refine l_q (q_move (v := .bool _) rfl rfl) ?_
    have hk18 : (decide (((brightM fl G xs).1) = (mfault fl G))) = true := decide_eq_true (by rw [hbR])
    refine l_part 49 rfl (fun _ => ?_) (fun hx => absurd (hk18.symm.trans hx) (by decide))
    refine l_q (q_move (v := .int _ _) rfl rfl) ?_
    refine l_q (q_move (v := .int _ _) rfl rfl) ?_
    refine l_q (q_eql rfl rfl rfl) ?_
    refine l_q (q_pick_t (v := .bool _) rfl rfl rfl) ?_
    refine l_q (q_move (v := .bool _) rfl rfl) ?_
    have hk19 : (decide (((polishM fl G).1) = (mfault fl G))) = true := decide_eq_true (by rw [hpR])
    refine l_part 54 rfl (fun _ => ?_) (fun hx => absurd (hk19.symm.trans hx) (by decide))
    refine l_q (q_move (v := .slice _ _ _) rfl rfl) ?_
    refine l_q (q_len rfl Tryz.underlying52 rfl rfl) ?_
    refine l_q (q_move (v := .slice _ _ _) rfl rfl) ?_
    refine l_q (q_len rfl Tryz.underlying22 rfl rfl) ?_
    refine l_q (q_add rfl rfl (by omega) rfl) ?_
    refine l_q (q_eql rfl rfl rfl) ?_
    refine l_q (q_pick_t (v := .bool _) rfl rfl rfl) ?_
    refine l_q (q_move (v := .bool _) rfl rfl) ?_
    have hk20 : (decide (((((brightM fl G xs).2).length : Int) + (((polishM fl G).2).length : Int)) = 0)) = true := by rw [hbR, hpR]; rfl
    refine l_part 62 rfl (fun _ => ?_) (fun hx => absurd (hk20.symm.trans hx) (by decide))
    refine l_o (o_call Tryz.call17 rfl (awake_ret _) rfl ?_)
    rintro _ w21 ⟨rfl, hE21⟩
    replace hB := below_ext hB hE21 hsz
    replace hb1 := hb1.ext hE21
    replace hmr8 := hmr8.ext hE21
    replace ho9_0 := own_ext ho9_0 hE21
    replace hbr10 := hbr10.ext hE21
    replace hmr11 := hmr11.ext hE21
    replace hpl12 := hpl12.ext hE21
    replace hsz := Nat.le_trans hsz hE21.size
    refine l_q (q_pick_t (v := .bool _) rfl rfl rfl) ?_
    refine l_q (q_assign (v := .bool _) rfl rfl) ?_
    refine l_nil ?_
    refine r_forget [(4, .bool _)] ⟨rfl, trivial⟩ (fun e22 => ?_)
    refine r_ret_ (vs := [.bool _]) rfl Tryz.func6 rfl (.nil _) ⟨rfl, trivial⟩ ?_
    exact ⟨rfl, Ext.of_below hB⟩
   ·
    replace hc17 := dt (nf hc17)
    have hm : mfault fl G = 0 := by simpa using hc17
    obtain ⟨⟨hf1, hf2⟩, ⟨hg0, hg8⟩, hrg⟩ := mf_ok hm
    refine r_skip (r_seq (r_region' ?_))
    refine l_q (q_load_agg (n := 2) Tryz.isAgg51 Tryz.sizeOf51 rfl ((hb1.cells' (cs' := [_, _]) 0 2 rfl)) rfl rfl) ?_
    refine l_o (o_call Tryz.call36 rfl (polish10_ret fl ga gc G _ (hG.below hB) hGn hm) rfl ?_)
    rintro _ w23 ⟨xa23, xc23, rfl, hP10, hE23⟩
    replace hB := below_ext hB hE23 hsz
    replace hb1 := hb1.ext hE23
    replace hmr8 := hmr8.ext hE23
    replace ho9_0 := own_ext ho9_0 hE23
    replace hbr10 := hbr10.ext hE23
    replace hmr11 := hmr11.ext hE23
    replace hpl12 := hpl12.ext hE23
    replace hsz := Nat.le_trans hsz hE23.size
    refine l_q (q_move (v := .tuple _) rfl rfl) ?_
    refine l_q (q_extract (vs := [_, _]) (v := .slice _ _ _) rfl rfl rfl) ?_
    refine l_q (q_extract (vs := [_, _]) (v := .bool _) rfl rfl rfl) ?_
    refine l_q (q_assign (v := .slice _ _ _) rfl rfl) ?_
    refine l_q (q_assign (v := .bool _) rfl rfl) ?_
    refine l_nil ?_
    refine r_forget [(1, .slice _ _ _), (2, .pointer _), (5, .slice _ _ _), (6, .int _ _), (7, .slice _ _ _), (8, .int _ _), (9, .int _ _), (10, .int _ _), (11, .slice _ _ _), (12, .bool _)] ⟨rfl, rfl, rfl, rfl, rfl, rfl, rfl, rfl, rfl, rfl, trivial⟩ (fun e24 => ?_)
    refine r_seq (r_seq (r_region' ?_))
    refine l_q (q_move (v := .bool _) rfl rfl) ?_
    refine l_q (q_not rfl rfl) ?_
    refine l_nil ?_
    refine r_cond rfl (fun hc25 => ?_) (fun hc25 => ?_)
    ·
     replace hc25 := nt hc25
     have hpR := polN_no hm hc25
     refine r_region' ?_
     refine l_q (q_assign (v := .int _ _) rfl rfl) ?_
     refine l_q (q_assign (v := .slice _ _ _) rfl rfl) ?_
     refine l_nil (r_seq (r_seq (r_region' ?_)))
     refine l_q (q_move (v := .int _ _) rfl rfl) ?_
     refine l_q (q_move (v := .int _ _) rfl rfl) ?_
     refine l_q (q_neq rfl rfl rfl) ?_
     refine l_q (q_move (v := .bool _) rfl rfl) ?_
     have hk26 : (!decide (((polishM fl G).1) = 10)) = false := by rw [hpR] <;> first | rfl | (rw [hm]; rfl)
     refine l_part 75 rfl (fun hx => absurd (hk26.symm.trans hx) (by decide)) (fun _ => ?_)
     refine l_q (q_move (v := .slice _ _ _) rfl rfl) ?_
     refine l_q (q_move (v := .slice _ _ _) rfl rfl) ?_
     refine l_o (o_call Tryz.call30 rfl (same10_ret _ _ ((polishM fl G).2) none 0 [] _ hpl12 (by rw [hpR]; decide) (Row.nil _ _ _ _) (by decide)) rfl ?_)
     rintro _ w27 ⟨rfl, hE27⟩
     replace hB := below_ext hB hE27 hsz
     replace hb1 := hb1.ext hE27
     replace hmr8 := hmr8.ext hE27
     replace ho9_0 := own_ext ho9_0 hE27
     replace hbr10 := hbr10.ext hE27
     replace hmr11 := hmr11.ext hE27
     replace hpl12 := hpl12.ext hE27
     replace hP10 := hP10.ext hE27
     replace hsz := Nat.le_trans hsz hE27.size
     refine l_q (q_not rfl rfl) ?_
     refine l_q (q_pick_f (v := .bool _) rfl rfl rfl) ?_
     refine l_nil ?_
     refine r_forget [(1, .slice _ _ _), (2, .pointer _), (5, .slice _ _ _), (6, .int _ _), (9, .int _ _), (80, .bool _)] ⟨rfl, rfl, rfl, rfl, rfl, rfl, trivial⟩ (fun e28 => ?_)
     have hk29 : (!(decide (((polishM fl G).2) = []))) = false := by rw [hpR]; simp
     refine r_cond_f ((congrArg Value.bool hk29 : Value.bool _ = _)) ?_
     refine r_skip (r_seq (r_seq (r_region' ?_)))
     refine l_q (q_move (v := .slice _ _ _) rfl rfl) ?_
     refine l_q (q_fieldAddr (o' := 1) rfl fld51_1 rfl) ?_
     refine l_q (q_load Tryz.isAgg49 rfl ((hb1.has (o := 1) rfl)) rfl) ?_
     refine l_q (q_len rfl Tryz.underlying49 rfl rfl) ?_
     refine l_o (o_call Tryz.call37 rfl (rising_ret _ _ xs _ _ (hx.below hB) hxn (by omega)) rfl ?_)
     rintro _ w30 ⟨rfl, hE30⟩
     replace hB := below_ext hB hE30 hsz
     replace hb1 := hb1.ext hE30
     replace hmr8 := hmr8.ext hE30
     replace ho9_0 := own_ext ho9_0 hE30
     replace hbr10 := hbr10.ext hE30
     replace hmr11 := hmr11.ext hE30
     replace hpl12 := hpl12.ext hE30
     replace hP10 := hP10.ext hE30
     replace hsz := Nat.le_trans hsz hE30.size
     refine l_q (q_not rfl rfl) ?_
     refine l_nil ?_
     refine r_cond rfl (fun hc31 => ?_) (fun hc31 => ?_)
     ·
      replace hc31 := nt hc31
      have hri := hc31
      have hbR := br_2 hm hri
      refine r_region' ?_
      refine l_q (q_assign (v := .int _ _) rfl rfl) ?_
      refine l_nil (r_seq (r_seq (r_region' ?_)))
      refine l_q (q_move (v := .int _ _) rfl rfl) ?_
      refine l_q (q_neq rfl rfl rfl) ?_
      refine l_nil ?_
      have hk32 : (!decide (2 = 0)) = true := by decide
      refine r_cond_t ((congrArg Value.bool hk32 : Value.bool _ = _)) ?_
      refine r_seq (r_region' ?_)
      refine l_q (q_move (v := .int _ _) rfl rfl) ?_
      refine l_q (q_move (v := .int _ _) rfl rfl) ?_
      refine l_q (q_eql rfl rfl rfl) ?_
      refine l_q (q_move (v := .bool _) rfl rfl) ?_
      have hk33 : (decide (((brightM fl G xs).1) = 2)) = true := decide_eq_true (by rw [hbR])
      refine l_part 92 rfl (fun _ => ?_) (fun hx => absurd (hk33.symm.trans hx) (by decide))
      refine l_q (q_move (v := .slice _ _ _) rfl rfl) ?_
      refine l_q (q_len rfl Tryz.underlying52 rfl rfl) ?_
      refine l_q (q_eql rfl rfl rfl) ?_
      refine l_q (q_pick_t (v := .bool _) rfl rfl rfl) ?_
      refine l_q (q_move (v := .bool _) rfl rfl) ?_
      have hk34 : (decide ((((brightM fl G xs).2).length : Int) = 0)) = true := by rw [hbR]; rfl
      refine l_part 97 rfl (fun _ => ?_) (fun hx => absurd (hk34.symm.trans hx) (by decide))
      refine l_o (o_call Tryz.call17 rfl (awake_ret _) rfl ?_)
      rintro _ w35 ⟨rfl, hE35⟩
      replace hB := below_ext hB hE35 hsz
      replace hb1 := hb1.ext hE35
      replace hmr8 := hmr8.ext hE35
      replace ho9_0 := own_ext ho9_0 hE35
      replace hbr10 := hbr10.ext hE35
      replace hmr11 := hmr11.ext hE35
      replace hpl12 := hpl12.ext hE35
      replace hP10 := hP10.ext hE35
      replace hsz := Nat.le_trans hsz hE35.size
      refine l_q (q_pick_t (v := .bool _) rfl rfl rfl) ?_
      refine l_q (q_assign (v := .bool _) rfl rfl) ?_
      refine l_nil ?_
      refine r_forget [(4, .bool _)] ⟨rfl, trivial⟩ (fun e36 => ?_)
      refine r_ret_ (vs := [.bool _]) rfl Tryz.func6 rfl (.nil _) ⟨rfl, trivial⟩ ?_
      exact ⟨rfl, Ext.of_below hB⟩
     ·
      replace hc31 := nf hc31
      have hri := hc31
      have hbl := bright_len (xs := xs) hm hri
      have hbR := br_0 hm hri
      refine r_skip (r_seq (r_seq (r_region' ?_)))
      refine l_q (q_move (v := .int _ _) rfl rfl) ?_
      refine l_q (q_neq rfl rfl rfl) ?_
      refine l_nil ?_
      have hk37 : (!decide ((mfault fl G) = 0)) = false := by rw [hm]; rfl
      refine r_cond_f ((congrArg Value.bool hk37 : Value.bool _ = _)) ?_
      refine r_skip (r_seq ?_)
      refine r_draw ext_refl' ext_trans' [0, 1, 2, 5, 6, 7, 3, 4, 8, 9, 10, 11] [3, 4, 8, 9] 30 (by kernel_rfl) (by kernel_rfl) ?_
      intro w38 _ hE38
      replace hB := below_ext hB hE38 hsz
      replace hb1 := hb1.ext hE38
      replace hmr8 := hmr8.ext hE38
      replace ho9_0 := own_ext ho9_0 hE38
      replace hbr10 := hbr10.ext hE38
      replace hmr11 := hmr11.ext hE38
      replace hpl12 := hpl12.ext hE38
      replace hP10 := hP10.ext hE38
      replace hsz := Nat.le_trans hsz hE38.size
      refine m_q rfl rfl (fun w' hC' => q_load_agg (n := 2) Tryz.isAgg51 Tryz.sizeOf51 rfl (((hb1.cells' (cs' := [_, _]) 0 2 rfl).ext hC')) rfl rfl) ?_
      refine m_q rfl rfl (fun w' hC' => q_move (v := .slice _ _ _) rfl rfl) ?_
      refine m_q rfl rfl (fun w' hC' => q_load_agg (n := 2) Tryz.isAgg51 Tryz.sizeOf51 rfl (((hb1.cells' (cs' := [_, _]) 0 2 rfl).ext hC')) rfl rfl) ?_
      refine m_q rfl rfl (fun w' hC' => q_load_agg (n := 2) Tryz.isAgg51 Tryz.sizeOf51 rfl (((hb1.cells' (cs' := [_, _]) 0 2 rfl).ext hC')) rfl rfl) ?_
      refine m_q rfl rfl (fun w' hC' => q_move (v := .slice _ _ _) rfl rfl) ?_
      refine m_q rfl rfl (fun w' hC' => q_load_agg (n := 2) Tryz.isAgg51 Tryz.sizeOf51 rfl (((hb1.cells' (cs' := [_, _]) 0 2 rfl).ext hC')) rfl rfl) ?_
      refine m_o rfl rfl (o_call Tryz.call39 rfl (ends10_ret fl ga gc G true _ (hG.below hB) hGn) rfl ?_)
      rintro _ w39 ⟨a39_0, c39_0, rfl, ho39_0, hE39⟩
      replace ho39_0 := own_mono ho39_0 (show w.heap.size ≤ _ by omega)
      refine ⟨hE39, ?_⟩
      replace hB := below_ext hB hE39 hsz
      replace hb1 := hb1.ext hE39
      replace hmr8 := hmr8.ext hE39
      replace ho9_0 := own_ext ho9_0 hE39
      replace hbr10 := hbr10.ext hE39
      replace hmr11 := hmr11.ext hE39
      replace hpl12 := hpl12.ext hE39
      replace hP10 := hP10.ext hE39
      replace hsz := Nat.le_trans hsz hE39.size
      refine m_o rfl rfl (o_call Tryz.call38 rfl (dims10_ret fl ga gc G _ _ xs _ _ (G.map (pkB true)) _ (hG.below hB) hGn (hx.below hB) hxn (Row.of_owns ho39_0) (by rw [List.length_map]; omega) (by rw [List.length_map]; exact Nat.le_refl _) (pk_bnd hrg)) rfl ?_)
      rintro _ w40 ⟨a40_0, c40_0, rfl, ho40_0, hE40⟩
      replace ho40_0 := own_mono ho40_0 (show w.heap.size ≤ _ by omega)
      refine ⟨hE40, ?_⟩
      replace hB := below_ext hB hE40 hsz
      replace hb1 := hb1.ext hE40
      replace hmr8 := hmr8.ext hE40
      replace ho9_0 := own_ext ho9_0 hE40
      replace hbr10 := hbr10.ext hE40
      replace hmr11 := hmr11.ext hE40
      replace hpl12 := hpl12.ext hE40
      replace hP10 := hP10.ext hE40
      replace ho39_0 := own_ext ho39_0 hE40
      replace hsz := Nat.le_trans hsz hE40.size
      refine m_o rfl rfl (o_call Tryz.call39 rfl (ends10_ret fl ga gc G false _ (hG.below hB) hGn) rfl ?_)
      rintro _ w41 ⟨a41_0, c41_0, rfl, ho41_0, hE41⟩
      replace ho41_0 := own_mono ho41_0 (show w.heap.size ≤ _ by omega)
      refine ⟨hE41, ?_⟩
      replace hB := below_ext hB hE41 hsz
      replace hb1 := hb1.ext hE41
      replace hmr8 := hmr8.ext hE41
      replace ho9_0 := own_ext ho9_0 hE41
      replace hbr10 := hbr10.ext hE41
      replace hmr11 := hmr11.ext hE41
      replace hpl12 := hpl12.ext hE41
      replace hP10 := hP10.ext hE41
      replace ho39_0 := own_ext ho39_0 hE41
      replace ho40_0 := own_ext ho40_0 hE41
      replace hsz := Nat.le_trans hsz hE41.size
      refine m_o rfl rfl (o_call Tryz.call38 rfl (dims10_ret fl ga gc G _ _ xs _ _ (G.map (pkB false)) _ (hG.below hB) hGn (hx.below hB) hxn (Row.of_owns ho41_0) (by rw [List.length_map]; omega) (by rw [List.length_map]; exact Nat.le_refl _) (pk_bnd hrg)) rfl ?_)
      rintro _ w42 ⟨a42_0, c42_0, rfl, ho42_0, hE42⟩
      replace ho42_0 := own_mono ho42_0 (show w.heap.size ≤ _ by omega)
      refine ⟨hE42, ?_⟩
      replace hB := below_ext hB hE42 hsz
      replace hb1 := hb1.ext hE42
      replace hmr8 := hmr8.ext hE42
      replace ho9_0 := own_ext ho9_0 hE42
      replace hbr10 := hbr10.ext hE42
      replace hmr11 := hmr11.ext hE42
      replace hpl12 := hpl12.ext hE42
      replace hP10 := hP10.ext hE42
      replace ho39_0 := own_ext ho39_0 hE42
      replace ho40_0 := own_ext ho40_0 hE42
      replace ho41_0 := own_ext ho41_0 hE42
      replace hsz := Nat.le_trans hsz hE42.size
      refine m_q rfl rfl (fun w' hC' => q_assign (v := .slice _ _ _) rfl rfl) ?_
      refine m_q rfl rfl (fun w' hC' => q_assign (v := .slice _ _ _) rfl rfl) ?_
      refine m_nil ?_
      refine r_forget [(5, .slice _ _ _), (6, .int _ _), (13, .slice _ _ _), (14, .slice _ _ _)] ⟨rfl, rfl, rfl, rfl, trivial⟩ (fun e43 => ?_)
      refine r_seq (r_seq (r_region' ?_))
      refine l_q (q_move (v := .int _ _) rfl rfl) ?_
      refine l_q (q_neq rfl rfl rfl) ?_
      refine l_q (q_move (v := .bool _) rfl rfl) ?_
      have hk44 : (!decide (((brightM fl G xs).1) = 0)) = false := by rw [hbR]; rfl
      refine l_part 112 rfl (fun hx => absurd (hk44.symm.trans hx) (by decide)) (fun _ => ?_)
      refine l_q (q_move (v := .slice _ _ _) rfl rfl) ?_
      refine l_q (q_len rfl Tryz.underlying52 rfl rfl) ?_
      refine l_q (q_move (v := .slice _ _ _) rfl rfl) ?_
      refine l_q (q_len rfl Tryz.underlying22 rfl rfl) ?_
      refine l_q (q_neq rfl rfl rfl) ?_
      refine l_q (q_pick_f (v := .bool _) rfl rfl rfl) ?_
      refine l_nil ?_
      have hk45 : (!decide ((((brightM fl G xs).2).length : Int) = ((dimsT xs (G.map (pkB true)) G.length).length : Int))) = false := by rw [hbl, dimsT_len]; simp
      refine r_cond_f ((congrArg Value.bool hk45 : Value.bool _ = _)) ?_
      refine r_skip (r_seq (r_seq (r_region' ?_)))
      refine l_q (q_assign (v := .int _ _) rfl rfl) ?_
      refine l_nil ?_
      refine r_forget [(5, .slice _ _ _), (13, .slice _ _ _), (14, .slice _ _ _), (15, .int _ _)] ⟨rfl, rfl, rfl, rfl, trivial⟩ (fun e46 => ?_)
      refine r_block ?_
      refine r_rounds (α := Nat) (fun k e wl => Knows e [(5, .slice ba10 (((brightM fl G xs).2).length) bc10), (13, .slice a40_0 ((dimsT xs (G.map (pkB true)) G.length).length) c40_0), (14, .slice a42_0 ((dimsT xs (G.map (pkB false)) G.length).length) c42_0), (15, vint (k : Int))] ∧ (k ≤ G.length) ∧ (Blk wl b1 [vint fl, .slice ga G.length gc]) ∧ (Row wl ga8 G.length gc8 2 (G.flatMap RG.enc)) ∧ (wl.ownsRow w.heap.size 3 1 (.slice a9_0 ((xs).length) c9_0) ((xs).length) ((xs).map vint)) ∧ (Row wl ba10 (((brightM fl G xs).2).length) bc10 2 (((brightM fl G xs).2).flatMap RG.enc)) ∧ (Row wl ga11 G.length gc11 2 (G.flatMap RG.enc)) ∧ (Row wl la12 (((polishM fl G).2).length) lc12 1 (((polishM fl G).2).map vint)) ∧ (Row wl xa23 ((polN fl G (2 ^ G.length - 1)).length) xc23 1 ((polN fl G (2 ^ G.length - 1)).map vint)) ∧ (wl.ownsRow w.heap.size 3 1 (.slice a39_0 ((G.map (pkB true)).length) c39_0) ((G.map (pkB true)).length) ((G.map (pkB true)).map vint)) ∧ (wl.ownsRow w.heap.size 3 1 (.slice a40_0 ((dimsT xs (G.map (pkB true)) G.length).length) c40_0) ((dimsT xs (G.map (pkB true)) G.length).length) ((dimsT xs (G.map (pkB true)) G.length).map vint)) ∧ (wl.ownsRow w.heap.size 3 1 (.slice a41_0 ((G.map (pkB false)).length) c41_0) ((G.map (pkB false)).length) ((G.map (pkB false)).map vint)) ∧ (wl.ownsRow w.heap.size 3 1 (.slice a42_0 ((dimsT xs (G.map (pkB false)) G.length).length) c42_0) ((dimsT xs (G.map (pkB false)) G.length).length) ((dimsT xs (G.map (pkB false)) G.length).map vint)) ∧ (w.heap.size ≤ wl.heap.size) ∧ (Below w.heap.size w wl)) (fun k => G.length - k) 0 ?_ ?_
      ·
       exact ⟨⟨rfl, rfl, rfl, rfl, trivial⟩, (Nat.zero_le _), hb1, hmr8, ho9_0, hbr10, hmr11, hpl12, hP10, ho39_0, ho40_0, ho41_0, ho42_0, hsz, hB⟩
      ·
       rintro k el47 wl47 ⟨hkn, hkk, hb1, hmr8, ho9_0, hbr10, hmr11, hpl12, hP10, ho39_0, ho40_0, ho41_0, ho42_0, hsz, hB⟩ ih47
       obtain ⟨e47, rfl⟩ := knows_env hkn
       refine r_seq (r_seq (r_region' ?_))
       refine l_q (q_move (v := .int _ _) rfl rfl) ?_
       refine l_q (q_move (v := .slice _ _ _) rfl rfl) ?_
       refine l_q (q_len rfl Tryz.underlying52 rfl rfl) ?_
       refine l_q (q_lss rfl rfl rfl) ?_
       refine l_nil ?_
       refine r_cond rfl (fun hc48 => ?_) (fun hc48 => ?_)
       ·
        replace hc48 := dt hc48
        have hkG : k < G.length := by omega
        refine r_skip (r_seq (r_block (r_seq ?_)))
        refine r_draw ext_refl' ext_trans' [0, 1, 2, 3, 4, 5, 6, 7, 8, 9, 10, 11, 12, 13, 14, 15, 16, 17, 18, 19, 20, 21] [] 40 (by kernel_rfl) (by kernel_rfl) ?_
        intro w49 _ hE49
        replace hB := below_ext hB hE49 hsz
        replace hb1 := hb1.ext hE49
        replace hmr8 := hmr8.ext hE49
        replace ho9_0 := own_ext ho9_0 hE49
        replace hbr10 := hbr10.ext hE49
        replace hmr11 := hmr11.ext hE49
        replace hpl12 := hpl12.ext hE49
        replace hP10 := hP10.ext hE49
        replace ho39_0 := own_ext ho39_0 hE49
        replace ho40_0 := own_ext ho40_0 hE49
        replace ho41_0 := own_ext ho41_0 hE49
        replace ho42_0 := own_ext ho42_0 hE49
        replace hsz := Nat.le_trans hsz hE49.size
        refine m_q rfl rfl (fun w' hC' => q_move (v := .slice _ _ _) rfl rfl) ?_
        refine m_q rfl rfl (fun w' hC' => q_move (v := .int _ _) rfl rfl) ?_
        obtain ⟨b50, o50, ha50, hh50⟩ := hbr10.at (by decide) k (by omega)
        refine m_q rfl rfl (fun w' hC' => q_indexAddr Tryz.underlying52 Tryz.sizeOf66 rfl ha50 rfl (by omega) rfl) ?_
        refine m_q rfl rfl (fun w' hC' => q_fieldAddr (o' := 0) rfl fld66_0 rfl) ?_
        refine m_q rfl rfl (fun w' hC' => q_load Tryz.isAgg3 rfl ((((cells_cast (wide_at RG.len rg0 _ _ (by omega)) hh50) 0 _ rfl).ext hC')) rfl) ?_
        refine m_q rfl rfl (fun w' hC' => q_move (v := .slice _ _ _) rfl rfl) ?_
        refine m_q rfl rfl (fun w' hC' => q_move (v := .int _ _) rfl rfl) ?_
        obtain ⟨b51, o51, ha51, hh51⟩ := (Row.of_owns ho40_0).at1 k ((dimsT xs (G.map (pkB true)) G.length).getD k 0) (getD_some (by rw [dimsT_len]; omega))
        refine m_q rfl rfl (fun w' hC' => q_indexAddr1 Tryz.underlying22 Tryz.sizeOf3 rfl ha51 rfl (by rw [dimsT_len]; omega) rfl) ?_
        refine m_q rfl rfl (fun w' hC' => q_load Tryz.isAgg3 rfl ((hh51.ext hC')) rfl) ?_
        refine m_q rfl rfl (fun w' hC' => q_neq rfl rfl rfl) ?_
        refine m_q rfl rfl (fun w' hC' => q_move (v := .bool _) rfl rfl) ?_
        have hk52 : (!decide (((((brightM fl G xs).2).getD k rg0).lo) = ((dimsT xs (G.map (pkB true)) G.length).getD k 0))) = false := by rw [bright_lo hm hri hkG]; simp
        refine m_part 135 rfl (fun hx => absurd (hk52.symm.trans hx) (by decide)) (fun _ => ?_)
        refine m_q rfl rfl (fun w' hC' => q_move (v := .slice _ _ _) rfl rfl) ?_
        refine m_q rfl rfl (fun w' hC' => q_move (v := .int _ _) rfl rfl) ?_
        obtain ⟨b53, o53, ha53, hh53⟩ := hbr10.at (by decide) k (by omega)
        refine m_q rfl rfl (fun w' hC' => q_indexAddr Tryz.underlying52 Tryz.sizeOf66 rfl ha53 rfl (by omega) rfl) ?_
        refine m_q rfl rfl (fun w' hC' => q_fieldAddr (o' := 1) rfl fld66_1 rfl) ?_
        refine m_q rfl rfl (fun w' hC' => q_load Tryz.isAgg3 rfl ((((cells_cast (wide_at RG.len rg0 _ _ (by omega)) hh53) 1 _ rfl).ext hC')) rfl) ?_
        refine m_q rfl rfl (fun w' hC' => q_move (v := .slice _ _ _) rfl rfl) ?_
        refine m_q rfl rfl (fun w' hC' => q_move (v := .int _ _) rfl rfl) ?_
        obtain ⟨b54, o54, ha54, hh54⟩ := (Row.of_owns ho42_0).at1 k ((dimsT xs (G.map (pkB false)) G.length).getD k 0) (getD_some (by rw [dimsT_len]; omega))
        refine m_q rfl rfl (fun w' hC' => q_indexAddr1 Tryz.underlying22 Tryz.sizeOf3 rfl ha54 rfl (by rw [dimsT_len]; omega) rfl) ?_
        refine m_q rfl rfl (fun w' hC' => q_load Tryz.isAgg3 rfl ((hh54.ext hC')) rfl) ?_
        refine m_q rfl rfl (fun w' hC' => q_neq rfl rfl rfl) ?_
        refine m_q rfl rfl (fun w' hC' => q_pick_f (v := .bool _) rfl rfl rfl) ?_
        refine m_nil ?_
        refine r_forget [(5, .slice _ _ _), (13, .slice _ _ _), (14, .slice _ _ _), (15, .int _ _), (146, .bool _)] ⟨rfl, rfl, rfl, rfl, rfl, trivial⟩ (fun e55 => ?_)
        have hk56 : (!decide (((((brightM fl G xs).2).getD k rg0).hi) = ((dimsT xs (G.map (pkB false)) G.length).getD k 0))) = false := by rw [bright_hi hm hri hkG]; simp
        refine r_cond_f ((congrArg Value.bool hk56 : Value.bool _ = _)) ?_
        refine r_skip (r_inBlock (r_region' ?_))
        refine l_q (q_move (v := .int _ _) rfl rfl) ?_
        refine l_q (q_add rfl rfl (by omega) rfl) ?_
        refine l_q (q_assign (v := .int _ _) rfl rfl) ?_
        refine l_nil ?_
        exact ih47 (k + 1) _ _ ⟨⟨rfl, rfl, rfl, by first | rfl | exact vint_eq (by omega), trivial⟩, (by omega), hb1, hmr8, ho9_0, hbr10, hmr11, hpl12, hP10, ho39_0, ho40_0, ho41_0, ho42_0, hsz, hB⟩ (by first | omega | (dsimp only; omega))
       ·
        replace hc48 := dlt hc48
        refine r_exit rfl ?_
        refine r_seq (r_region' ?_)
        refine l_o (o_call Tryz.call17 rfl (awake_ret _) rfl ?_)
        rintro _ w57 ⟨rfl, hE57⟩
        replace hB := below_ext hB hE57 hsz
        replace hb1 := hb1.ext hE57
        replace hmr8 := hmr8.ext hE57
        replace ho9_0 := own_ext ho9_0 hE57
        replace hbr10 := hbr10.ext hE57
        replace hmr11 := hmr11.ext hE57
        replace hpl12 := hpl12.ext hE57
        replace hP10 := hP10.ext hE57
        replace hsz := Nat.le_trans hsz hE57.size
        refine l_q (q_assign (v := .bool _) rfl rfl) ?_
        refine l_nil ?_
        refine r_ret_ (vs := [.bool _]) rfl Tryz.func6 rfl (.nil _) ⟨rfl, trivial⟩ ?_
        exact ⟨rfl, Ext.of_below hB⟩
    ·
     replace hc25 := nf hc25
     have hpR := polN_yes hm hc25
     refine r_skip (r_seq (r_seq (r_region' ?_)))
     refine l_q (q_move (v := .int _ _) rfl rfl) ?_
     refine l_q (q_move (v := .int _ _) rfl rfl) ?_
     refine l_q (q_neq rfl rfl rfl) ?_
     refine l_q (q_move (v := .bool _) rfl rfl) ?_
     have hk58 : (!decide (((polishM fl G).1) = (mfault fl G))) = false := by rw [hpR] <;> first | rfl | (rw [hm]; rfl)
     refine l_part 75 rfl (fun hx => absurd (hk58.symm.trans hx) (by decide)) (fun _ => ?_)
     refine l_q (q_move (v := .slice _ _ _) rfl rfl) ?_
     refine l_q (q_move (v := .slice _ _ _) rfl rfl) ?_
     refine l_o (o_call Tryz.call30 rfl (same10_ret _ _ ((polishM fl G).2) _ _ (polN fl G (2 ^ G.length - 1)) _ hpl12 (by rw [hpR]; exact Nat.le_trans (polN_len hm) (by decide)) hP10 (Nat.le_trans (polN_len hm) (by decide))) rfl ?_)
     rintro _ w59 ⟨rfl, hE59⟩
     replace hB := below_ext hB hE59 hsz
     replace hb1 := hb1.ext hE59
     replace hmr8 := hmr8.ext hE59
     replace ho9_0 := own_ext ho9_0 hE59
     replace hbr10 := hbr10.ext hE59
     replace hmr11 := hmr11.ext hE59
     replace hpl12 := hpl12.ext hE59
     replace hP10 := hP10.ext hE59
     replace hsz := Nat.le_trans hsz hE59.size
     refine l_q (q_not rfl rfl) ?_
     refine l_q (q_pick_f (v := .bool _) rfl rfl rfl) ?_
     refine l_nil ?_
     refine r_forget [(1, .slice _ _ _), (2, .pointer _), (5, .slice _ _ _), (6, .int _ _), (9, .int _ _), (80, .bool _)] ⟨rfl, rfl, rfl, rfl, rfl, rfl, trivial⟩ (fun e60 => ?_)
     have hk61 : (!(decide (((polishM fl G).2) = (polN fl G (2 ^ G.length - 1))))) = false := by rw [hpR]; simp
     refine r_cond_f ((congrArg Value.bool hk61 : Value.bool _ = _)) ?_
     refine r_skip (r_seq (r_seq (r_region' ?_)))
     refine l_q (q_move (v := .slice _ _ _) rfl rfl) ?_
     refine l_q (q_fieldAddr (o' := 1) rfl fld51_1 rfl) ?_
     refine l_q (q_load Tryz.isAgg49 rfl ((hb1.has (o := 1) rfl)) rfl) ?_
     refine l_q (q_len rfl Tryz.underlying49 rfl rfl) ?_
     refine l_o (o_call Tryz.call37 rfl (rising_ret _ _ xs _ _ (hx.below hB) hxn (by omega)) rfl ?_)
     rintro _ w62 ⟨rfl, hE62⟩
     replace hB := below_ext hB hE62 hsz
     replace hb1 := hb1.ext hE62
     replace hmr8 := hmr8.ext hE62
     replace ho9_0 := own_ext ho9_0 hE62
     replace hbr10 := hbr10.ext hE62
     replace hmr11 := hmr11.ext hE62
     replace hpl12 := hpl12.ext hE62
     replace hP10 := hP10.ext hE62
     replace hsz := Nat.le_trans hsz hE62.size
     refine l_q (q_not rfl rfl) ?_
     refine l_nil ?_
     refine r_cond rfl (fun hc63 => ?_) (fun hc63 => ?_)
     ·
      replace hc63 := nt hc63
      have hri := hc63
      have hbR := br_2 hm hri
      refine r_region' ?_
      refine l_q (q_assign (v := .int _ _) rfl rfl) ?_
      refine l_nil (r_seq (r_seq (r_region' ?_)))
      refine l_q (q_move (v := .int _ _) rfl rfl) ?_
      refine l_q (q_neq rfl rfl rfl) ?_
      refine l_nil ?_
      have hk64 : (!decide (2 = 0)) = true := by decide
      refine r_cond_t ((congrArg Value.bool hk64 : Value.bool _ = _)) ?_
      refine r_seq (r_region' ?_)
      refine l_q (q_move (v := .int _ _) rfl rfl) ?_
      refine l_q (q_move (v := .int _ _) rfl rfl) ?_
      refine l_q (q_eql rfl rfl rfl) ?_
      refine l_q (q_move (v := .bool _) rfl rfl) ?_
      have hk65 : (decide (((brightM fl G xs).1) = 2)) = true := decide_eq_true (by rw [hbR])
      refine l_part 92 rfl (fun _ => ?_) (fun hx => absurd (hk65.symm.trans hx) (by decide))
      refine l_q (q_move (v := .slice _ _ _) rfl rfl) ?_
      refine l_q (q_len rfl Tryz.underlying52 rfl rfl) ?_
      refine l_q (q_eql rfl rfl rfl) ?_
      refine l_q (q_pick_t (v := .bool _) rfl rfl rfl) ?_
      refine l_q (q_move (v := .bool _) rfl rfl) ?_
      have hk66 : (decide ((((brightM fl G xs).2).length : Int) = 0)) = true := by rw [hbR]; rfl
      refine l_part 97 rfl (fun _ => ?_) (fun hx => absurd (hk66.symm.trans hx) (by decide))
      refine l_o (o_call Tryz.call17 rfl (awake_ret _) rfl ?_)
      rintro _ w67 ⟨rfl, hE67⟩
      replace hB := below_ext hB hE67 hsz
      replace hb1 := hb1.ext hE67
      replace hmr8 := hmr8.ext hE67
      replace ho9_0 := own_ext ho9_0 hE67
      replace hbr10 := hbr10.ext hE67
      replace hmr11 := hmr11.ext hE67
      replace hpl12 := hpl12.ext hE67
      replace hP10 := hP10.ext hE67
      replace hsz := Nat.le_trans hsz hE67.size
      refine l_q (q_pick_t (v := .bool _) rfl rfl rfl) ?_
      refine l_q (q_assign (v := .bool _) rfl rfl) ?_
      refine l_nil ?_
      refine r_forget [(4, .bool _)] ⟨rfl, trivial⟩ (fun e68 => ?_)
      refine r_ret_ (vs := [.bool _]) rfl Tryz.func6 rfl (.nil _) ⟨rfl, trivial⟩ ?_
      exact ⟨rfl, Ext.of_below hB⟩
     ·
      replace hc63 := nf hc63
      have hri := hc63
      have hbl := bright_len (xs := xs) hm hri
      have hbR := br_0 hm hri
      refine r_skip (r_seq (r_seq (r_region' ?_)))
      refine l_q (q_move (v := .int _ _) rfl rfl) ?_
      refine l_q (q_neq rfl rfl rfl) ?_
      refine l_nil ?_
      have hk69 : (!decide ((mfault fl G) = 0)) = false := by rw [hm]; rfl
      refine r_cond_f ((congrArg Value.bool hk69 : Value.bool _ = _)) ?_
      refine r_skip (r_seq ?_)
      refine r_draw ext_refl' ext_trans' [0, 1, 2, 5, 6, 7, 3, 4, 8, 9, 10, 11] [3, 4, 8, 9] 30 (by kernel_rfl) (by kernel_rfl) ?_
      intro w70 _ hE70
      replace hB := below_ext hB hE70 hsz
      replace hb1 := hb1.ext hE70
      replace hmr8 := hmr8.ext hE70
      replace ho9_0 := own_ext ho9_0 hE70
      replace hbr10 := hbr10.ext hE70
      replace hmr11 := hmr11.ext hE70
      replace hpl12 := hpl12.ext hE70
      replace hP10 := hP10.ext hE70
      replace hsz := Nat.le_trans hsz hE70.size
      refine m_q rfl rfl (fun w' hC' => q_load_agg (n := 2) Tryz.isAgg51 Tryz.sizeOf51 rfl (((hb1.cells' (cs' := [_, _]) 0 2 rfl).ext hC')) rfl rfl) ?_
      refine m_q rfl rfl (fun w' hC' => q_move (v := .slice _ _ _) rfl rfl) ?_
      refine m_q rfl rfl (fun w' hC' => q_load_agg (n := 2) Tryz.isAgg51 Tryz.sizeOf51 rfl (((hb1.cells' (cs' := [_, _]) 0 2 rfl).ext hC')) rfl rfl) ?_
      refine m_q rfl rfl (fun w' hC' => q_load_agg (n := 2) Tryz.isAgg51 Tryz.sizeOf51 rfl (((hb1.cells' (cs' := [_, _]) 0 2 rfl).ext hC')) rfl rfl) ?_
      refine m_q rfl rfl (fun w' hC' => q_move (v := .slice _ _ _) rfl rfl) ?_
      refine m_q rfl rfl (fun w' hC' => q_load_agg (n := 2) Tryz.isAgg51 Tryz.sizeOf51 rfl (((hb1.cells' (cs' := [_, _]) 0 2 rfl).ext hC')) rfl rfl) ?_
      refine m_o rfl rfl (o_call Tryz.call39 rfl (ends10_ret fl ga gc G true _ (hG.below hB) hGn) rfl ?_)
      rintro _ w71 ⟨a71_0, c71_0, rfl, ho71_0, hE71⟩
      replace ho71_0 := own_mono ho71_0 (show w.heap.size ≤ _ by omega)
      refine ⟨hE71, ?_⟩
      replace hB := below_ext hB hE71 hsz
      replace hb1 := hb1.ext hE71
      replace hmr8 := hmr8.ext hE71
      replace ho9_0 := own_ext ho9_0 hE71
      replace hbr10 := hbr10.ext hE71
      replace hmr11 := hmr11.ext hE71
      replace hpl12 := hpl12.ext hE71
      replace hP10 := hP10.ext hE71
      replace hsz := Nat.le_trans hsz hE71.size
      refine m_o rfl rfl (o_call Tryz.call38 rfl (dims10_ret fl ga gc G _ _ xs _ _ (G.map (pkB true)) _ (hG.below hB) hGn (hx.below hB) hxn (Row.of_owns ho71_0) (by rw [List.length_map]; omega) (by rw [List.length_map]; exact Nat.le_refl _) (pk_bnd hrg)) rfl ?_)
      rintro _ w72 ⟨a72_0, c72_0, rfl, ho72_0, hE72⟩
      replace ho72_0 := own_mono ho72_0 (show w.heap.size ≤ _ by omega)
      refine ⟨hE72, ?_⟩
      replace hB := below_ext hB hE72 hsz
      replace hb1 := hb1.ext hE72
      replace hmr8 := hmr8.ext hE72
      replace ho9_0 := own_ext ho9_0 hE72
      replace hbr10 := hbr10.ext hE72
      replace hmr11 := hmr11.ext hE72
      replace hpl12 := hpl12.ext hE72
      replace hP10 := hP10.ext hE72
      replace ho71_0 := own_ext ho71_0 hE72
      replace hsz := Nat.le_trans hsz hE72.size
      refine m_o rfl rfl (o_call Tryz.call39 rfl (ends10_ret fl ga gc G false _ (hG.below hB) hGn) rfl ?_)
      rintro _ w73 ⟨a73_0, c73_0, rfl, ho73_0, hE73⟩
      replace ho73_0 := own_mono ho73_0 (show w.heap.size ≤ _ by omega)
      refine ⟨hE73, ?_⟩
      replace hB := below_ext hB hE73 hsz
      replace hb1 := hb1.ext hE73
      replace hmr8 := hmr8.ext hE73
      replace ho9_0 := own_ext ho9_0 hE73
      replace hbr10 := hbr10.ext hE73
      replace hmr11 := hmr11.ext hE73
      replace hpl12 := hpl12.ext hE73
      replace hP10 := hP10.ext hE73
      replace ho71_0 := own_ext ho71_0 hE73
      replace ho72_0 := own_ext ho72_0 hE73
      replace hsz := Nat.le_trans hsz hE73.size
      refine m_o rfl rfl (o_call Tryz.call38 rfl (dims10_ret fl ga gc G _ _ xs _ _ (G.map (pkB false)) _ (hG.below hB) hGn (hx.below hB) hxn (Row.of_owns ho73_0) (by rw [List.length_map]; omega) (by rw [List.length_map]; exact Nat.le_refl _) (pk_bnd hrg)) rfl ?_)
      rintro _ w74 ⟨a74_0, c74_0, rfl, ho74_0, hE74⟩
      replace ho74_0 := own_mono ho74_0 (show w.heap.size ≤ _ by omega)
      refine ⟨hE74, ?_⟩
      replace hB := below_ext hB hE74 hsz
      replace hb1 := hb1.ext hE74
      replace hmr8 := hmr8.ext hE74
      replace ho9_0 := own_ext ho9_0 hE74
      replace hbr10 := hbr10.ext hE74
      replace hmr11 := hmr11.ext hE74
      replace hpl12 := hpl12.ext hE74
      replace hP10 := hP10.ext hE74
      replace ho71_0 := own_ext ho71_0 hE74
      replace ho72_0 := own_ext ho72_0 hE74
      replace ho73_0 := own_ext ho73_0 hE74
      replace hsz := Nat.le_trans hsz hE74.size
      refine m_q rfl rfl (fun w' hC' => q_assign (v := .slice _ _ _) rfl rfl) ?_
      refine m_q rfl rfl (fun w' hC' => q_assign (v := .slice _ _ _) rfl rfl) ?_
      refine m_nil ?_
      refine r_forget [(5, .slice _ _ _), (6, .int _ _), (13, .slice _ _ _), (14, .slice _ _ _)] ⟨rfl, rfl, rfl, rfl, trivial⟩ (fun e75 => ?_)
      refine r_seq (r_seq (r_region' ?_))
      refine l_q (q_move (v := .int _ _) rfl rfl) ?_
      refine l_q (q_neq rfl rfl rfl) ?_
      refine l_q (q_move (v := .bool _) rfl rfl) ?_
      have hk76 : (!decide (((brightM fl G xs).1) = 0)) = false := by rw [hbR]; rfl
      refine l_part 112 rfl (fun hx => absurd (hk76.symm.trans hx) (by decide)) (fun _ => ?_)
      refine l_q (q_move (v := .slice _ _ _) rfl rfl) ?_
      refine l_q (q_len rfl Tryz.underlying52 rfl rfl) ?_
      refine l_q (q_move (v := .slice _ _ _) rfl rfl) ?_
      refine l_q (q_len rfl Tryz.underlying22 rfl rfl) ?_
      refine l_q (q_neq rfl rfl rfl) ?_
      refine l_q (q_pick_f (v := .bool _) rfl rfl rfl) ?_
      refine l_nil ?_
      have hk77 : (!decide ((((brightM fl G xs).2).length : Int) = ((dimsT xs (G.map (pkB true)) G.length).length : Int))) = false := by rw [hbl, dimsT_len]; simp
      refine r_cond_f ((congrArg Value.bool hk77 : Value.bool _ = _)) ?_
      refine r_skip (r_seq (r_seq (r_region' ?_)))
      refine l_q (q_assign (v := .int _ _) rfl rfl) ?_
      refine l_nil ?_
      refine r_forget [(5, .slice _ _ _), (13, .slice _ _ _), (14, .slice _ _ _), (15, .int _ _)] ⟨rfl, rfl, rfl, rfl, trivial⟩ (fun e78 => ?_)
      refine r_block ?_
      refine r_rounds (α := Nat) (fun k e wl => Knows e [(5, .slice ba10 (((brightM fl G xs).2).length) bc10), (13, .slice a72_0 ((dimsT xs (G.map (pkB true)) G.length).length) c72_0), (14, .slice a74_0 ((dimsT xs (G.map (pkB false)) G.length).length) c74_0), (15, vint (k : Int))] ∧ (k ≤ G.length) ∧ (Blk wl b1 [vint fl, .slice ga G.length gc]) ∧ (Row wl ga8 G.length gc8 2 (G.flatMap RG.enc)) ∧ (wl.ownsRow w.heap.size 3 1 (.slice a9_0 ((xs).length) c9_0) ((xs).length) ((xs).map vint)) ∧ (Row wl ba10 (((brightM fl G xs).2).length) bc10 2 (((brightM fl G xs).2).flatMap RG.enc)) ∧ (Row wl ga11 G.length gc11 2 (G.flatMap RG.enc)) ∧ (Row wl la12 (((polishM fl G).2).length) lc12 1 (((polishM fl G).2).map vint)) ∧ (Row wl xa23 ((polN fl G (2 ^ G.length - 1)).length) xc23 1 ((polN fl G (2 ^ G.length - 1)).map vint)) ∧ (wl.ownsRow w.heap.size 3 1 (.slice a71_0 ((G.map (pkB true)).length) c71_0) ((G.map (pkB true)).length) ((G.map (pkB true)).map vint)) ∧ (wl.ownsRow w.heap.size 3 1 (.slice a72_0 ((dimsT xs (G.map (pkB true)) G.length).length) c72_0) ((dimsT xs (G.map (pkB true)) G.length).length) ((dimsT xs (G.map (pkB true)) G.length).map vint)) ∧ (wl.ownsRow w.heap.size 3 1 (.slice a73_0 ((G.map (pkB false)).length) c73_0) ((G.map (pkB false)).length) ((G.map (pkB false)).map vint)) ∧ (wl.ownsRow w.heap.size 3 1 (.slice a74_0 ((dimsT xs (G.map (pkB false)) G.length).length) c74_0) ((dimsT xs (G.map (pkB false)) G.length).length) ((dimsT xs (G.map (pkB false)) G.length).map vint)) ∧ (w.heap.size ≤ wl.heap.size) ∧ (Below w.heap.size w wl)) (fun k => G.length - k) 0 ?_ ?_
      ·
       exact ⟨⟨rfl, rfl, rfl, rfl, trivial⟩, (Nat.zero_le _), hb1, hmr8, ho9_0, hbr10, hmr11, hpl12, hP10, ho71_0, ho72_0, ho73_0, ho74_0, hsz, hB⟩
      ·
       rintro k el79 wl79 ⟨hkn, hkk, hb1, hmr8, ho9_0, hbr10, hmr11, hpl12, hP10, ho71_0, ho72_0, ho73_0, ho74_0, hsz, hB⟩ ih79
       obtain ⟨e79, rfl⟩ := knows_env hkn
       refine r_seq (r_seq (r_region' ?_))
       refine l_q (q_move (v := .int _ _) rfl rfl) ?_
       refine l_q (q_move (v := .slice _ _ _) rfl rfl) ?_
       refine l_q (q_len rfl Tryz.underlying52 rfl rfl) ?_
       refine l_q (q_lss rfl rfl rfl) ?_
       refine l_nil ?_
       refine r_cond rfl (fun hc80 => ?_) (fun hc80 => ?_)
       ·
        replace hc80 := dt hc80
        have hkG : k < G.length := by omega
        refine r_skip (r_seq (r_block (r_seq ?_)))
        refine r_draw ext_refl' ext_trans' [0, 1, 2, 3, 4, 5, 6, 7, 8, 9, 10, 11, 12, 13, 14, 15, 16, 17, 18, 19, 20, 21] [] 40 (by kernel_rfl) (by kernel_rfl) ?_
        intro w81 _ hE81
        replace hB := below_ext hB hE81 hsz
        replace hb1 := hb1.ext hE81
        replace hmr8 := hmr8.ext hE81
        replace ho9_0 := own_ext ho9_0 hE81
        replace hbr10 := hbr10.ext hE81
        replace hmr11 := hmr11.ext hE81
        replace hpl12 := hpl12.ext hE81
        replace hP10 := hP10.ext hE81
        replace ho71_0 := own_ext ho71_0 hE81
        replace ho72_0 := own_ext ho72_0 hE81
        replace ho73_0 := own_ext ho73_0 hE81
        replace ho74_0 := own_ext ho74_0 hE81
        replace hsz := Nat.le_trans hsz hE81.size
        refine m_q rfl rfl (fun w' hC' => q_move (v := .slice _ _ _) rfl rfl) ?_
        refine m_q rfl rfl (fun w' hC' => q_move (v := .int _ _) rfl rfl) ?_
        obtain ⟨b82, o82, ha82, hh82⟩ := hbr10.at (by decide) k (by omega)
        refine m_q rfl rfl (fun w' hC' => q_indexAddr Tryz.underlying52 Tryz.sizeOf66 rfl ha82 rfl (by omega) rfl) ?_
        refine m_q rfl rfl (fun w' hC' => q_fieldAddr (o' := 0) rfl fld66_0 rfl) ?_
        refine m_q rfl rfl (fun w' hC' => q_load Tryz.isAgg3 rfl ((((cells_cast (wide_at RG.len rg0 _ _ (by omega)) hh82) 0 _ rfl).ext hC')) rfl) ?_
        refine m_q rfl rfl (fun w' hC' => q_move (v := .slice _ _ _) rfl rfl) ?_
        refine m_q rfl rfl (fun w' hC' => q_move (v := .int _ _) rfl rfl) ?_
        obtain ⟨b83, o83, ha83, hh83⟩ := (Row.of_owns ho72_0).at1 k ((dimsT xs (G.map (pkB true)) G.length).getD k 0) (getD_some (by rw [dimsT_len]; omega))
        refine m_q rfl rfl (fun w' hC' => q_indexAddr1 Tryz.underlying22 Tryz.sizeOf3 rfl ha83 rfl (by rw [dimsT_len]; omega) rfl) ?_
        refine m_q rfl rfl (fun w' hC' => q_load Tryz.isAgg3 rfl ((hh83.ext hC')) rfl) ?_
        refine m_q rfl rfl (fun w' hC' => q_neq rfl rfl rfl) ?_
        refine m_q rfl rfl (fun w' hC' => q_move (v := .bool _) rfl rfl) ?_
        have hk84 : (!decide (((((brightM fl G xs).2).getD k rg0).lo) = ((dimsT xs (G.map (pkB true)) G.length).getD k 0))) = false := by rw [bright_lo hm hri hkG]; simp
        refine m_part 135 rfl (fun hx => absurd (hk84.symm.trans hx) (by decide)) (fun _ => ?_)
        refine m_q rfl rfl (fun w' hC' => q_move (v := .slice _ _ _) rfl rfl) ?_
        refine m_q rfl rfl (fun w' hC' => q_move (v := .int _ _) rfl rfl) ?_
        obtain ⟨b85, o85, ha85, hh85⟩ := hbr10.at (by decide) k (by omega)
        refine m_q rfl rfl (fun w' hC' => q_indexAddr Tryz.underlying52 Tryz.sizeOf66 rfl ha85 rfl (by omega) rfl) ?_
        refine m_q rfl rfl (fun w' hC' => q_fieldAddr (o' := 1) rfl fld66_1 rfl) ?_
        refine m_q rfl rfl (fun w' hC' => q_load Tryz.isAgg3 rfl ((((cells_cast (wide_at RG.len rg0 _ _ (by omega)) hh85) 1 _ rfl).ext hC')) rfl) ?_
        refine m_q rfl rfl (fun w' hC' => q_move (v := .slice _ _ _) rfl rfl) ?_
        refine m_q rfl rfl (fun w' hC' => q_move (v := .int _ _) rfl rfl) ?_
        obtain ⟨b86, o86, ha86, hh86⟩ := (Row.of_owns ho74_0).at1 k ((dimsT xs (G.map (pkB false)) G.length).getD k 0) (getD_some (by rw [dimsT_len]; omega))
        refine m_q rfl rfl (fun w' hC' => q_indexAddr1 Tryz.underlying22 Tryz.sizeOf3 rfl ha86 rfl (by rw [dimsT_len]; omega) rfl) ?_
        refine m_q rfl rfl (fun w' hC' => q_load Tryz.isAgg3 rfl ((hh86.ext hC')) rfl) ?_
        refine m_q rfl rfl (fun w' hC' => q_neq rfl rfl rfl) ?_
        refine m_q rfl rfl (fun w' hC' => q_pick_f (v := .bool _) rfl rfl rfl) ?_
        refine m_nil ?_
        refine r_forget [(5, .slice _ _ _), (13, .slice _ _ _), (14, .slice _ _ _), (15, .int _ _), (146, .bool _)] ⟨rfl, rfl, rfl, rfl, rfl, trivial⟩ (fun e87 => ?_)
        have hk88 : (!decide (((((brightM fl G xs).2).getD k rg0).hi) = ((dimsT xs (G.map (pkB false)) G.length).getD k 0))) = false := by rw [bright_hi hm hri hkG]; simp
        refine r_cond_f ((congrArg Value.bool hk88 : Value.bool _ = _)) ?_
        refine r_skip (r_inBlock (r_region' ?_))
        refine l_q (q_move (v := .int _ _) rfl rfl) ?_
        refine l_q (q_add rfl rfl (by omega) rfl) ?_
        refine l_q (q_assign (v := .int _ _) rfl rfl) ?_
        refine l_nil ?_
        exact ih79 (k + 1) _ _ ⟨⟨rfl, rfl, rfl, by first | rfl | exact vint_eq (by omega), trivial⟩, (by omega), hb1, hmr8, ho9_0, hbr10, hmr11, hpl12, hP10, ho71_0, ho72_0, ho73_0, ho74_0, hsz, hB⟩ (by first | omega | (dsimp only; omega))
       ·
        replace hc80 := dlt hc80
        refine r_exit rfl ?_
        refine r_seq (r_region' ?_)
        refine l_o (o_call Tryz.call17 rfl (awake_ret _) rfl ?_)
        rintro _ w89 ⟨rfl, hE89⟩
        replace hB := below_ext hB hE89 hsz
        replace hsz := Nat.le_trans hsz hE89.size
        refine l_q (q_assign (v := .bool _) rfl rfl) ?_
        refine l_nil ?_
        refine r_ret_ (vs := [.bool _]) rfl Tryz.func6 rfl (.nil _) ⟨rfl, trivial⟩ ?_
        exact ⟨rfl, Ext.of_below hB⟩
end Go.Proofs.YtgdanglidienmaaGreat
