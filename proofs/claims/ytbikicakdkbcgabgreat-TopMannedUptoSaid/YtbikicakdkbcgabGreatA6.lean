/- Contracts. -/
import Derived.Test.YtbikicakdkbcgabGreatA5
set_option linter.unusedVariables false
set_option linter.unusedSimpArgs false
namespace Go.Proofs.YtbikicakdkbcgabGreat
open Go Go.RowKit Go.Gv Go.Fl

theorem cells_sub {w : World} {b o : Nat} {cs cs' : List Value} (h : Cells w b o cs) (k n : Nat) (hs : (cs.drop k).take n = cs') : Cells w b (o + k) cs' := fun j v hj => by
  subst hs
  rw [List.getElem?_take] at hj
  split at hj
  · rw [List.getElem?_drop] at hj
    have := h (k + j) v hj
    rwa [← Nat.add_assoc] at this
  · cases hj
theorem nt_snoc {G : List NT} {k : Nat} (hk : k < G.length) : G.take k ++ [G.getD k nt0] = G.take (k + 1) := by
  rw [List.take_add_one, List.getElem?_eq_getElem hk, List.getD_eq_getElem?_getD, List.getElem?_eq_getElem hk]; rfl
theorem burn_snoc {X : List Int} {k : Nat} {y : Int} {f g : Nat → Int} (hl : X.length = k) (h : ∀ j, j < k → f j ≤ X.getD j 0 ∧ X.getD j 0 ≤ g j) (hy : f k ≤ y ∧ y ≤ g k) : ∀ j, j < k + 1 → f j ≤ (X ++ [y]).getD j 0 ∧ (X ++ [y]).getD j 0 ≤ g j := fun j hj => by
  subst hl
  by_cases h2 : j < X.length
  · have h5 : (X ++ [y]).getD j 0 = X.getD j 0 := by rw [List.getD_eq_getElem?_getD, List.getElem?_append_left h2, ← List.getD_eq_getElem?_getD]
    rw [h5]; exact h j h2
  · obtain rfl : j = X.length := by omega
    have h5 : (X ++ [y]).getD X.length 0 = y := by rw [List.getD_eq_getElem?_getD, List.getElem?_append_right (Nat.le_refl _), Nat.sub_self]; rfl
    rw [h5]; exact hy

theorem el75 : Elem Tryz.prog 75 (.agg ⟨[vint 0, vint 0, vint 0, vint 0, vint 0]⟩) 5 40 := elem_of (by kernel_rfl) rfl (by decide)
theorem fld52_0 (w : World) (b o : Nat) : (Instr.fieldAt 52 (ptr b o) 0).run Tryz.prog w = .ok (ptr b (o + 0)) w := by
  simp [Instr.fieldAt, run_underlying Tryz.underlying52, fieldPlace, Instr.sureAddr, Tryz.sizeOf3, Addr.add_lit]
theorem fld52_1 (w : World) (b o : Nat) : (Instr.fieldAt 52 (ptr b o) 1).run Tryz.prog w = .ok (ptr b (o + 1)) w := by
  simp [Instr.fieldAt, run_underlying Tryz.underlying52, fieldPlace, Instr.sureAddr, Tryz.sizeOf27, Addr.add_lit]
theorem to8_ret (lo hi : Int) (w : World) : Ret Tryz.prog 30 [.agg ⟨[vint lo, vint hi]⟩] w (fun v w' => v = .agg ⟨[vint lo, vint hi]⟩ ∧ Ext w w') := by
 have hB := Below.refl w.heap.size w
 have hsz : w.heap.size ≤ w.heap.size := Nat.le_refl _
 refine ret_of_runs (args := [_]) Tryz.func30 rfl (Nat.le_of_ble_eq_true rfl) (by kernel_rfl) (r_seq (r_region' (l_o (o_box rfl rfl rfl ?_))))
 intro b1 w1 hzl1 hzr1 _ hb1 hE1
 have hbs_b1 : w.heap.size ≤ b1 := Nat.le_trans hsz hzl1
 replace hB := below_ext hB hE1 hsz
 replace hsz := Nat.le_trans hsz hE1.size
 refine l_o (o_alloc Tryz.zeroValue43 rfl rfl ?_)
 intro b2 w2 hzl2 hzr2 _ hb2 hE2
 have hbs_b2 : w.heap.size ≤ b2 := Nat.le_trans hsz hzl2
 replace hB := below_ext hB hE2 hsz
 replace hb1 := hb1.ext hE2
 replace hsz := Nat.le_trans hsz hE2.size
 refine l_nil (r_seq (r_region' (l_q (q_fieldAddr (o' := 0) rfl fld23_0 rfl) (l_q (q_load Tryz.isAgg3 rfl ((hb1.has (o := 0) rfl)) rfl) (l_q (q_fieldAddr (o' := 1) rfl fld23_1 rfl) (l_q (q_load Tryz.isAgg3 rfl ((hb1.has (o := 1) rfl)) rfl) (l_q (q_build (v := .agg ⟨[vint lo, vint hi]⟩) (fun w => by kernel_rfl) rfl) (l_o (o_store (vs := [vint lo, vint hi]) (cs' := [vint lo, vint hi]) Tryz.sizeOf43 rfl rfl rfl rfl hb2 (Nat.le_of_ble_eq_true rfl) rfl rfl ?_)))))))))
 intro w3 hz3 hb2 hG3
 replace hB := below_upd hB hG3 hsz (by omega)
 replace hsz : w.heap.size ≤ w3.heap.size := by rw [hz3]; exact hsz
 refine l_nil (r_ret_ (vs := [.agg _]) rfl Tryz.func30 rfl (.nil _) ⟨⟨_, _, rfl, run_loadVarA Tryz.isAgg43 Tryz.sizeOf43 (hb2.cells' (cs' := [_, _]) 0 2 rfl) rfl⟩, trivial⟩ ?_)
 exact ⟨rfl, Ext.of_below hB⟩
theorem list8_ret (xa : Option Addr) (xc : Nat) (xs : List Int) (w : World) (hx : Row w xa xs.length xc 1 (xs.map vint)) (hxn : xs.length ≤ 2097152) : Ret Tryz.prog 38 [.slice xa xs.length xc] w (fun v w' => ∃ ra0 rc0, v = .slice ra0 (xs).length rc0 ∧ w'.ownsRow w.heap.size 3 1 (.slice ra0 (xs).length rc0) (xs).length ((xs).map vint) ∧ Ext w w') := by
 have hB := Below.refl w.heap.size w
 have hsz : w.heap.size ≤ w.heap.size := Nat.le_refl _
 refine ret_of_runs (args := [_]) Tryz.func38 rfl (Nat.le_of_ble_eq_true rfl) (by kernel_rfl) (r_seq (r_region' (l_q (qas rfl rfl) (l_nil (r_seq (r_region' (l_o (o_buildSlice (el := 3) (cs := []) Tryz.underlying27 el3 (by decide) (by kernel_rfl) rfl (by decide) rfl ?_))))))))
 intro b1 w1 hzl1 hzr1 _ hb1 hE1 ho1
 have hbs_b1 : w.heap.size ≤ b1 := Nat.le_trans hsz hzl1
 replace hB := below_ext hB hE1 hsz
 replace hsz := Nat.le_trans hsz hE1.size
 refine l_q (qms rfl rfl) (l_o (o_append_map (f := vint) ([]) (xs) Tryz.underlying27 el3 rfl rfl ho1 rfl (hx.below hB) (fun _ => rfl) (by (try simp only [List.length_append, List.length_cons, List.length_nil, List.length_take, List.length_drop, List.length_replicate]); omega) (by omega) rfl ?_))
 intro a2 c2 w2 hz2 ho2 hG2
 replace hB := below_own hB hG2 ho1 (by omega) hsz
 replace hsz := Nat.le_trans hsz hG2.size
 refine l_q (qas rfl rfl) (l_nil (r_ret_ (vs := [.slice _ _ _]) rfl Tryz.func38 rfl (.nil _) ⟨rfl, trivial⟩ ?_))
 exact ⟨_, _, rfl, ho2, Ext.of_below hB⟩
theorem store8_ret (cap can s0 s1 : Int) (sa : Option Addr) (sc : Nat) (ns : List NT) (w : World) (hns : Row w sa ns.length sc 5 (ns.flatMap NT.enc)) (hnl : ns.length ≤ 2097152) : Ret Tryz.prog 10 [.agg ⟨[vint cap, vint can, vint s0, vint s1, .slice sa ns.length sc]⟩] w (fun v w' => ∃ oa oc, v = .agg ⟨[vint cap, vint can, vint s0, vint s1, .slice oa ns.length oc]⟩ ∧ w'.ownsRow w.heap.size 75 5 (.slice oa ns.length oc) ns.length (ns.flatMap NT.enc) ∧ Ext w w') := by
 have hB := Below.refl w.heap.size w
 have hsz : w.heap.size ≤ w.heap.size := Nat.le_refl _
 refine ret_of_runs (args := [_]) Tryz.func10 rfl (Nat.le_of_ble_eq_true rfl) (by kernel_rfl) (r_seq (r_region' (l_o (o_boxt rfl rfl rfl ?_))))
 intro b1 w1 hzl1 hzr1 _ hb1 hty_b1 hE1
 have hbs_b1 : w.heap.size ≤ b1 := Nat.le_trans hsz hzl1
 replace hB := below_ext hB hE1 hsz
 replace hsz := Nat.le_trans hsz hE1.size
 refine l_o (o_alloct Tryz.zeroValue46 rfl rfl ?_)
 intro b2 w2 hzl2 hzr2 _ hb2 hty_b2 hE2
 have hne_b1_b2 : b1 ≠ b2 := by have := hb1.lt; omega
 have hbs_b2 : w.heap.size ≤ b2 := Nat.le_trans hsz hzl2
 replace hB := below_ext hB hE2 hsz
 replace hb1 := hb1.ext hE2
 replace hty_b1 := hty_b1.ext hE2
 replace hsz := Nat.le_trans hsz hE2.size
 refine l_nil (r_seq (r_draw3 ext_refl' ext_trans' (.op 0 (.op 1 (.op 2 (.op 3 (.op 4 (.op 5 (.fork 8 (.op 6 (.op 7 (.op 9 (.done)))) (.op 6 (.op 7 (.op 8 (.op 9 (.done)))))))))))) [6, 8, 9, 1009] 20 (by kernel_rfl) (by kernel_rfl) ?_))
 intro w3 _ hE3
 replace hB := below_ext hB hE3 hsz
 replace hb1 := hb1.ext hE3
 replace hty_b1 := hty_b1.ext hE3
 replace hb2 := hb2.ext hE3
 replace hty_b2 := hty_b2.ext hE3
 replace hsz := Nat.le_trans hsz hE3.size
 refine m_q3 rfl rfl (fun w' hC' => q_fieldAddr (o' := 0) rfl fld26_0 rfl) (m_q3 rfl rfl (fun w' hC' => q_load Tryz.isAgg3 rfl (((hb1.has (o := 0) rfl).ext hC')) rfl) (m_q3 rfl rfl (fun w' hC' => q_fieldAddr (o' := 1) rfl fld26_1 rfl) (m_q3 rfl rfl (fun w' hC' => q_load Tryz.isAgg3 rfl (((hb1.has (o := 1) rfl).ext hC')) rfl) (m_q3 rfl rfl (fun w' hC' => q_fieldAddr (o' := 2) rfl fld26_2 rfl) (m_q3 rfl rfl (fun w' hC' => q_load_agg (n := 2) Tryz.isAgg23 Tryz.sizeOf23 rfl (((hb1.cells' (cs' := [_, _]) 2 2 rfl).ext hC')) rfl rfl) (m_fork3 ?_ ?_))))))
 ·
  refine m_o3 rfl rfl (o_alloct Tryz.zeroValue46 rfl rfl ?_)
  intro b4 w4 hzl4 hzr4 _ hb4 hty_b4 hE4
  refine ⟨hE4, ?_⟩
  have hne_b1_b4 : b1 ≠ b4 := by have := hb1.lt; omega
  have hne_b2_b4 : b2 ≠ b4 := by have := hb2.lt; omega
  have hbs_b4 : w.heap.size ≤ b4 := Nat.le_trans hsz hzl4
  replace hB := below_ext hB hE4 hsz
  replace hb1 := hb1.ext hE4
  replace hty_b1 := hty_b1.ext hE4
  replace hb2 := hb2.ext hE4
  replace hty_b2 := hty_b2.ext hE4
  replace hsz := Nat.le_trans hsz hE4.size
  refine m_o3 rfl rfl (o_call Tryz.call30 rfl (to8_ret _ _ _) rfl ?_)
  rintro _ w5 ⟨rfl, hE5⟩
  refine ⟨hE5, ?_⟩
  replace hB := below_ext hB hE5 hsz
  replace hb1 := hb1.ext hE5
  replace hty_b1 := hty_b1.ext hE5
  replace hb2 := hb2.ext hE5
  replace hty_b2 := hty_b2.ext hE5
  replace hb4 := hb4.ext hE5
  replace hty_b4 := hty_b4.ext hE5
  replace hsz := Nat.le_trans hsz hE5.size
  refine m_q3 rfl rfl (fun w' hC' => q_build (v := .agg ⟨[vint cap, vint can, vint s0, vint s1, .slice none 0 0]⟩) (fun w => by kernel_rfl) rfl) (m_last3 rfl rfl rfl (o_storet (vs := [vint cap, vint can, vint s0, vint s1, .slice none 0 0]) (cs' := [vint cap, vint can, vint s0, vint s1, .slice none 0 0]) Tryz.sizeOf46 rfl rfl rfl rfl hb4 (Nat.le_of_ble_eq_true rfl) rfl rfl ?_))
  intro w6 hz6 hb4 hT6 hG6
  replace hB := below_upd hB hG6 hsz (by omega)
  replace hsz : w.heap.size ≤ w6.heap.size := by rw [hz6]; exact hsz
  replace hb1 := hb1.upd hG6 (by omega)
  replace hty_b1 := hty_b1.upd hG6 (by omega)
  replace hb2 := hb2.upd hG6 (by omega)
  replace hty_b2 := hty_b2.upd hG6 (by omega)
  replace hty_b4 := hT6 _ hty_b4
  refine m_nil3 (r_seq (r_seq (r_region' (l_q (qai rfl rfl) (l_nil (r_block (r_rounds (α := Nat × (Option Addr) × Nat × (List NT)) (fun ⟨k, oa, oc, X⟩ e wl => Knows e [(1, ptr b1 0), (2, ptr b2 0), (3, ptr b4 0), (4, vint (k : Int))] ∧ (k ≤ ns.length) ∧ (X = ns.take k) ∧ (X.length = k) ∧ (Blk wl b4 [vint cap, vint can, vint s0, vint s1, .slice oa X.length oc]) ∧ (wl.ownsRow w.heap.size 75 5 (.slice oa X.length oc) X.length (X.flatMap NT.enc)) ∧ (Blk wl b1 [vint cap, vint can, vint s0, vint s1, .slice sa ns.length sc]) ∧ (TyAt wl b1 26) ∧ (Blk wl b2 [vint 0, vint 0, vint 0, vint 0, .slice none 0 0]) ∧ (TyAt wl b2 46) ∧ (TyAt wl b4 46) ∧ (w.heap.size ≤ wl.heap.size) ∧ (Below w.heap.size w wl)) (fun ⟨k, oa, oc, X⟩ => ns.length - k) (0, none, 0, []) ?_ ?_)))))))
  ·
   exact ⟨⟨rfl, rfl, rfl, rfl, trivial⟩, (Nat.zero_le _), rfl, rfl, hb4, (World.ownsRow_nil _ _ _ _), hb1, hty_b1, hb2, hty_b2, hty_b4, hsz, hB⟩
  ·
   rintro ⟨k, oa, oc, X⟩ el7 wl7 ⟨hkn, hk, hX, hXl, hb4, hop, hb1, hty_b1, hb2, hty_b2, hty_b4, hsz, hB⟩ ih7
   obtain ⟨e7, rfl⟩ := knows_env hkn
   refine r_seq (r_seq (r_region' (l_q (qmi rfl rfl) (l_q (q_fieldAddr (o' := 4) rfl fld26_3 rfl) (l_q (q_load Tryz.isAgg24 rfl ((hb1.has (o := 4) rfl)) rfl) (l_q (q_len rfl Tryz.underlying24 rfl rfl) (l_q (q_lss rfl rfl rfl) (l_nil (r_cond rfl (fun hc8 => ?_) (fun hc8 => ?_))))))))))
   ·
    replace hc8 := dt hc8
    have hkn : k < ns.length := by omega
    refine r_skip (r_seq (r_block (r_seq (r_region' (l_q (q_fieldAddr (o' := 4) rfl fld26_3 rfl) (l_q (q_load Tryz.isAgg24 rfl ((hb1.has (o := 4) rfl)) rfl) (l_q (qmi rfl rfl) ?_)))))))
    obtain ⟨b9, o9, ha9, hh9⟩ := (hns.below hB).at (by decide) k (by omega)
    refine l_q (q_indexAddr Tryz.underlying24 Tryz.sizeOf49 rfl ha9 rfl (by omega) rfl) (l_q (q_load_agg (cs := [vint (((ns).getD k nt0).h), vint (((ns).getD k nt0).le), vint (((ns).getD k nt0).mo), vint (((ns).getD k nt0).lo), vint (((ns).getD k nt0).hi)]) (n := 5) Tryz.isAgg49 Tryz.sizeOf49 rfl ((cells_cast (wide_at NT.len nt0 _ _ (by omega)) hh9)) rfl rfl) (l_o (o_alloct Tryz.zeroValue49 rfl rfl ?_)))
    intro b10 w10 hzl10 hzr10 _ hb10 hty_b10 hE10
    have hne_b1_b10 : b1 ≠ b10 := by have := hb1.lt; omega
    have hne_b2_b10 : b2 ≠ b10 := by have := hb2.lt; omega
    have hne_b4_b10 : b4 ≠ b10 := by have := hb4.lt; omega
    have hbs_b10 : w.heap.size ≤ b10 := Nat.le_trans hsz hzl10
    replace hB := below_ext hB hE10 hsz
    replace hb1 := hb1.ext hE10
    replace hty_b1 := hty_b1.ext hE10
    replace hb2 := hb2.ext hE10
    replace hty_b2 := hty_b2.ext hE10
    replace hb4 := hb4.ext hE10
    replace hty_b4 := hty_b4.ext hE10
    replace hop := own_ext hop hE10
    replace hsz := Nat.le_trans hsz hE10.size
    refine l_o (o_storet (vs := [vint (((ns).getD k nt0).h), vint (((ns).getD k nt0).le), vint (((ns).getD k nt0).mo), vint (((ns).getD k nt0).lo), vint (((ns).getD k nt0).hi)]) (cs' := [vint (((ns).getD k nt0).h), vint (((ns).getD k nt0).le), vint (((ns).getD k nt0).mo), vint (((ns).getD k nt0).lo), vint (((ns).getD k nt0).hi)]) Tryz.sizeOf49 rfl rfl rfl rfl hb10 (Nat.le_of_ble_eq_true rfl) rfl rfl ?_)
    intro w11 hz11 hb10 hT11 hG11
    replace hB := below_upd hB hG11 hsz (by omega)
    replace hsz : w.heap.size ≤ w11.heap.size := by rw [hz11]; exact hsz
    replace hb1 := hb1.upd hG11 (by omega)
    replace hty_b1 := hty_b1.upd hG11 (by omega)
    replace hb2 := hb2.upd hG11 (by omega)
    replace hty_b2 := hty_b2.upd hG11 (by omega)
    replace hb4 := hb4.upd hG11 (by omega)
    replace hty_b4 := hty_b4.upd hG11 (by omega)
    replace hop := own_ty_upd hop hty_b10 hG11 (by decide)
    replace hty_b10 := hT11 _ hty_b10
    refine l_nil (r_forget [(1, .pointer _), (2, .pointer _), (3, .pointer _), (4, .int _ _), (5, .pointer _)] ⟨rfl, rfl, rfl, rfl, rfl, trivial⟩ (fun e12 => ?_))
    refine r_draw3 (Cls := fun w1 w2 => (Blk w1 b4 [vint cap, vint can, vint s0, vint s1, .slice oa X.length oc] → Blk w2 b4 [vint cap, vint can, vint s0, vint s1, .slice oa X.length oc]) ∧ (Blk w1 b10 [vint (((ns).getD k nt0).h), vint (((ns).getD k nt0).le), vint (((ns).getD k nt0).mo), vint (((ns).getD k nt0).lo), vint (((ns).getD k nt0).hi)] → Blk w2 b10 [vint (((ns).getD k nt0).h), vint (((ns).getD k nt0).le), vint (((ns).getD k nt0).mo), vint (((ns).getD k nt0).lo), vint (((ns).getD k nt0).hi)])) (fun w => ⟨(fun h => h), (fun h => h)⟩) (fun a b c h1 h2 => ⟨(fun h => h2.1 (h1.1 h)), (fun h => h2.2 (h1.2 h))⟩) (.op 0 (.op 1 (.op 2 (.op 3 (.op 4 (.op 5 (.op 6 (.op 7 (.op 8 (.op 9 (.op 10 (.op 11 (.op 12 (.op 13 (.op 14 (.op 15 (.done))))))))))))))))) [10, 12, 13, 15, 1015] 20 (by kernel_rfl) (by kernel_rfl) ?_
    intro w13 _ hE13
    replace hB := below_ext hB hE13 hsz
    replace hb1 := hb1.ext hE13
    replace hty_b1 := hty_b1.ext hE13
    replace hb2 := hb2.ext hE13
    replace hty_b2 := hty_b2.ext hE13
    replace hb4 := hb4.ext hE13
    replace hty_b4 := hty_b4.ext hE13
    replace hop := own_ext hop hE13
    replace hb10 := hb10.ext hE13
    replace hty_b10 := hty_b10.ext hE13
    replace hsz := Nat.le_trans hsz hE13.size
    refine m_q3 rfl rfl (fun w' hC' => q_fieldAddr (o' := 4) rfl fld46_3 rfl) (m_q3 rfl rfl (fun w' hC' => q_load Tryz.isAgg44 rfl (((hC'.1 hb4).has (o := 4) rfl)) rfl) (m_q3 rfl rfl (fun w' hC' => q_fieldAddr (o' := 0) rfl fld49_0 rfl) (m_q3 rfl rfl (fun w' hC' => q_load Tryz.isAgg3 rfl (((hC'.2 hb10).has (o := 0) rfl)) rfl) (m_q3 rfl rfl (fun w' hC' => q_fieldAddr (o' := 1) rfl fld49_1 rfl) (m_q3 rfl rfl (fun w' hC' => q_load Tryz.isAgg3 rfl (((hC'.2 hb10).has (o := 1) rfl)) rfl) (m_q3 rfl rfl (fun w' hC' => q_fieldAddr (o' := 2) rfl fld49_2 rfl) (m_q3 rfl rfl (fun w' hC' => q_load Tryz.isAgg3 rfl (((hC'.2 hb10).has (o := 2) rfl)) rfl) (m_q3 rfl rfl (fun w' hC' => q_fieldAddr (o' := 3) rfl fld49_3 rfl) (m_q3 rfl rfl (fun w' hC' => q_load_agg (n := 2) Tryz.isAgg23 Tryz.sizeOf23 rfl (((hC'.2 hb10).cells' (cs' := [_, _]) 3 2 rfl)) rfl rfl) ?_)))))))))
    refine m_o3 rfl rfl (o_call Tryz.call30 rfl (to8_ret _ _ _) rfl ?_)
    rintro _ w14 ⟨rfl, hE14⟩
    refine ⟨⟨(fun h => h.ext hE14), (fun h => h.ext hE14)⟩, ?_⟩
    replace hB := below_ext hB hE14 hsz
    replace hb1 := hb1.ext hE14
    replace hty_b1 := hty_b1.ext hE14
    replace hb2 := hb2.ext hE14
    replace hty_b2 := hty_b2.ext hE14
    replace hb4 := hb4.ext hE14
    replace hty_b4 := hty_b4.ext hE14
    replace hop := own_ext hop hE14
    replace hb10 := hb10.ext hE14
    replace hty_b10 := hty_b10.ext hE14
    replace hsz := Nat.le_trans hsz hE14.size
    refine m_q3 rfl rfl (fun w' hC' => q_build (v := .agg ⟨[vint (((ns).getD k nt0).h), vint (((ns).getD k nt0).le), vint (((ns).getD k nt0).mo), vint (((ns).getD k nt0).lo), vint (((ns).getD k nt0).hi)]⟩) (fun w => by kernel_rfl) rfl) (m_o3 rfl rfl (o_buildSlice (el := 75) (cs := [vint (((ns).getD k nt0).h), vint (((ns).getD k nt0).le), vint (((ns).getD k nt0).mo), vint (((ns).getD k nt0).lo), vint (((ns).getD k nt0).hi)]) Tryz.underlying44 el75 (by decide) (by kernel_rfl) rfl (by decide) rfl ?_))
    intro b15 w15 hzl15 hzr15 _ hb15 hE15 ho15
    refine ⟨⟨(fun h => h.ext hE15), (fun h => h.ext hE15)⟩, ?_⟩
    have hne_b1_b15 : b1 ≠ b15 := by have := hb1.lt; omega
    have hne_b2_b15 : b2 ≠ b15 := by have := hb2.lt; omega
    have hne_b4_b15 : b4 ≠ b15 := by have := hb4.lt; omega
    have hne_b10_b15 : b10 ≠ b15 := by have := hb10.lt; omega
    have hbs_b15 : w.heap.size ≤ b15 := Nat.le_trans hsz hzl15
    replace hB := below_ext hB hE15 hsz
    replace hb1 := hb1.ext hE15
    replace hty_b1 := hty_b1.ext hE15
    replace hb2 := hb2.ext hE15
    replace hty_b2 := hty_b2.ext hE15
    replace hb4 := hb4.ext hE15
    replace hty_b4 := hty_b4.ext hE15
    replace hop := own_ext hop hE15
    replace hty_b10 := hty_b10.ext hE15
    replace hsz := Nat.le_trans hsz hE15.size
    refine m_o3 rfl rfl (o_append_wide NT.one (X) (([⟨((ns).getD k nt0).h, ((ns).getD k nt0).le, ((ns).getD k nt0).mo, ((ns).getD k nt0).lo, ((ns).getD k nt0).hi⟩] : List NT)) Tryz.underlying44 el75 rfl rfl hop rfl (Row.of_owns ho15) (by (try simp only [List.length_append, List.length_cons, List.length_nil, List.length_take, List.length_drop, List.length_replicate]); omega) (by omega) rfl ?_)
    intro a17 c17 w17 hz17 ho17 hG17
    refine ⟨⟨(fun h => h.step hG17 (own_ty_ne hop hty_b4 (by decide))), (fun h => h.step hG17 (own_ty_ne hop hty_b10 (by decide)))⟩, ?_⟩
    replace hB := below_own hB hG17 hop (by omega) hsz
    replace hsz := Nat.le_trans hsz hG17.size
    replace hb1 := hb1.step hG17 (own_ty_ne hop hty_b1 (by decide))
    replace hb2 := hb2.step hG17 (own_ty_ne hop hty_b2 (by decide))
    replace hb4 := hb4.step hG17 (own_ty_ne hop hty_b4 (by decide))
    replace hty_b1 := TyAt.own hty_b1 hop hG17 (by decide)
    replace hty_b2 := TyAt.own hty_b2 hop hG17 (by decide)
    replace hty_b4 := TyAt.own hty_b4 hop hG17 (by decide)
    refine m_q3 rfl rfl (fun w' hC' => q_fieldAddr (o' := 4) rfl fld46_3 rfl) (m_last3 rfl rfl rfl (o_storet (vs := [.slice a17 ((X ++ ([⟨((ns).getD k nt0).h, ((ns).getD k nt0).le, ((ns).getD k nt0).mo, ((ns).getD k nt0).lo, ((ns).getD k nt0).hi⟩] : List NT)).length) c17]) (cs' := [vint cap, vint can, vint s0, vint s1, .slice a17 ((X ++ ([⟨((ns).getD k nt0).h, ((ns).getD k nt0).le, ((ns).getD k nt0).mo, ((ns).getD k nt0).lo, ((ns).getD k nt0).hi⟩] : List NT)).length) c17]) Tryz.sizeOf44 rfl rfl rfl rfl hb4 (Nat.le_of_ble_eq_true rfl) rfl rfl ?_))
    intro w18 hz18 hb4 hT18 hG18
    replace hB := below_upd hB hG18 hsz (by omega)
    replace hsz : w.heap.size ≤ w18.heap.size := by rw [hz18]; exact hsz
    replace hb1 := hb1.upd hG18 (by omega)
    replace hty_b1 := hty_b1.upd hG18 (by omega)
    replace hb2 := hb2.upd hG18 (by omega)
    replace hty_b2 := hty_b2.upd hG18 (by omega)
    replace ho17 := own_ty_upd ho17 hty_b4 hG18 (by decide)
    replace hty_b4 := hT18 _ hty_b4
    refine m_nil3 (r_forget [(1, .pointer _), (2, .pointer _), (3, .pointer _), (4, .int _ _)] ⟨rfl, rfl, rfl, rfl, trivial⟩ (fun e19 => (r_inBlock (r_region' (l_q (qmi rfl rfl) (l_q (q_add rfl rfl (by omega) rfl) (l_q (qai rfl rfl) (l_nil ?_))))))))
    exact ih7 (k + 1, a17, c17, X ++ ([⟨((ns).getD k nt0).h, ((ns).getD k nt0).le, ((ns).getD k nt0).mo, ((ns).getD k nt0).lo, ((ns).getD k nt0).hi⟩] : List NT)) _ _ ⟨⟨rfl, rfl, rfl, (vint_eq (by omega)), trivial⟩, (by omega), (by rw [hX]; exact nt_snoc hkn), (by rw [List.length_append, hXl]; rfl), hb4, ho17, hb1, hty_b1, hb2, hty_b2, hty_b4, hsz, hB⟩ (by first | omega | (dsimp only; omega))
   ·
    replace hc8 := dlt hc8
    refine r_exit rfl (r_seq (r_region' (l_q (q_load_agg (n := 5) Tryz.isAgg46 Tryz.sizeOf46 rfl ((hb4.cells' (cs' := [_, _, _, _, _]) 0 5 rfl)) rfl rfl) (l_o (o_storet (vs := [vint cap, vint can, vint s0, vint s1, .slice oa X.length oc]) (cs' := [vint cap, vint can, vint s0, vint s1, .slice oa X.length oc]) Tryz.sizeOf46 rfl rfl rfl rfl hb2 (Nat.le_of_ble_eq_true rfl) rfl rfl ?_)))))
    intro w20 hz20 hb2 hT20 hG20
    replace hB := below_upd hB hG20 hsz (by omega)
    replace hsz : w.heap.size ≤ w20.heap.size := by rw [hz20]; exact hsz
    replace hb1 := hb1.upd hG20 (by omega)
    replace hty_b1 := hty_b1.upd hG20 (by omega)
    replace hop := own_ty_upd hop hty_b2 hG20 (by decide)
    replace hty_b2 := hT20 _ hty_b2
    refine l_nil (r_ret_ (vs := [.agg _]) rfl Tryz.func10 rfl (.nil _) ⟨⟨_, _, rfl, run_loadVarA Tryz.isAgg46 Tryz.sizeOf46 (hb2.cells' (cs' := [_, _, _, _, _]) 0 5 rfl) rfl⟩, trivial⟩ ?_)
    have hke : k = ns.length := by omega
    subst hke
    rw [List.take_length] at hX
    subst hX
    exact ⟨oa, oc, rfl, hop, Ext.of_below hB⟩
 ·
  refine m_o3 rfl rfl (o_call Tryz.call30 rfl (to8_ret _ _ _) rfl ?_)
  rintro _ w21 ⟨rfl, hE21⟩
  refine ⟨hE21, ?_⟩
  replace hB := below_ext hB hE21 hsz
  replace hb1 := hb1.ext hE21
  replace hty_b1 := hty_b1.ext hE21
  replace hb2 := hb2.ext hE21
  replace hty_b2 := hty_b2.ext hE21
  replace hsz := Nat.le_trans hsz hE21.size
  refine m_q3 rfl rfl (fun w' hC' => q_build (v := .agg ⟨[vint cap, vint can, vint s0, vint s1, .slice none 0 0]⟩) (fun w => by kernel_rfl) rfl) (m_o3 rfl rfl (o_alloct Tryz.zeroValue46 rfl rfl ?_))
  intro b22 w22 hzl22 hzr22 _ hb22 hty_b22 hE22
  refine ⟨hE22, ?_⟩
  have hne_b1_b22 : b1 ≠ b22 := by have := hb1.lt; omega
  have hne_b2_b22 : b2 ≠ b22 := by have := hb2.lt; omega
  have hbs_b22 : w.heap.size ≤ b22 := Nat.le_trans hsz hzl22
  replace hB := below_ext hB hE22 hsz
  replace hb1 := hb1.ext hE22
  replace hty_b1 := hty_b1.ext hE22
  replace hb2 := hb2.ext hE22
  replace hty_b2 := hty_b2.ext hE22
  replace hsz := Nat.le_trans hsz hE22.size
  refine m_last3 rfl rfl rfl (o_storet (vs := [vint cap, vint can, vint s0, vint s1, .slice none 0 0]) (cs' := [vint cap, vint can, vint s0, vint s1, .slice none 0 0]) Tryz.sizeOf46 rfl rfl rfl rfl hb22 (Nat.le_of_ble_eq_true rfl) rfl rfl ?_)
  intro w23 hz23 hb22 hT23 hG23
  replace hB := below_upd hB hG23 hsz (by omega)
  replace hsz : w.heap.size ≤ w23.heap.size := by rw [hz23]; exact hsz
  replace hb1 := hb1.upd hG23 (by omega)
  replace hty_b1 := hty_b1.upd hG23 (by omega)
  replace hb2 := hb2.upd hG23 (by omega)
  replace hty_b2 := hty_b2.upd hG23 (by omega)
  replace hty_b22 := hT23 _ hty_b22
  refine m_nil3 (r_seq (r_seq (r_region' (l_q (qai rfl rfl) (l_nil (r_block (r_rounds (α := Nat × (Option Addr) × Nat × (List NT)) (fun ⟨k, oa, oc, X⟩ e wl => Knows e [(1, ptr b1 0), (2, ptr b2 0), (3, ptr b22 0), (4, vint (k : Int))] ∧ (k ≤ ns.length) ∧ (X = ns.take k) ∧ (X.length = k) ∧ (Blk wl b22 [vint cap, vint can, vint s0, vint s1, .slice oa X.length oc]) ∧ (wl.ownsRow w.heap.size 75 5 (.slice oa X.length oc) X.length (X.flatMap NT.enc)) ∧ (Blk wl b1 [vint cap, vint can, vint s0, vint s1, .slice sa ns.length sc]) ∧ (TyAt wl b1 26) ∧ (Blk wl b2 [vint 0, vint 0, vint 0, vint 0, .slice none 0 0]) ∧ (TyAt wl b2 46) ∧ (TyAt wl b22 46) ∧ (w.heap.size ≤ wl.heap.size) ∧ (Below w.heap.size w wl)) (fun ⟨k, oa, oc, X⟩ => ns.length - k) (0, none, 0, []) ?_ ?_)))))))
  ·
   exact ⟨⟨rfl, rfl, rfl, rfl, trivial⟩, (Nat.zero_le _), rfl, rfl, hb22, (World.ownsRow_nil _ _ _ _), hb1, hty_b1, hb2, hty_b2, hty_b22, hsz, hB⟩
  ·
   rintro ⟨k, oa, oc, X⟩ el24 wl24 ⟨hkn, hk, hX, hXl, hb22, hop, hb1, hty_b1, hb2, hty_b2, hty_b22, hsz, hB⟩ ih24
   obtain ⟨e24, rfl⟩ := knows_env hkn
   refine r_seq (r_seq (r_region' (l_q (qmi rfl rfl) (l_q (q_fieldAddr (o' := 4) rfl fld26_3 rfl) (l_q (q_load Tryz.isAgg24 rfl ((hb1.has (o := 4) rfl)) rfl) (l_q (q_len rfl Tryz.underlying24 rfl rfl) (l_q (q_lss rfl rfl rfl) (l_nil (r_cond rfl (fun hc25 => ?_) (fun hc25 => ?_))))))))))
   ·
    replace hc25 := dt hc25
    have hkn : k < ns.length := by omega
    refine r_skip (r_seq (r_block (r_seq (r_region' (l_q (q_fieldAddr (o' := 4) rfl fld26_3 rfl) (l_q (q_load Tryz.isAgg24 rfl ((hb1.has (o := 4) rfl)) rfl) (l_q (qmi rfl rfl) ?_)))))))
    obtain ⟨b26, o26, ha26, hh26⟩ := (hns.below hB).at (by decide) k (by omega)
    refine l_q (q_indexAddr Tryz.underlying24 Tryz.sizeOf49 rfl ha26 rfl (by omega) rfl) (l_q (q_load_agg (cs := [vint (((ns).getD k nt0).h), vint (((ns).getD k nt0).le), vint (((ns).getD k nt0).mo), vint (((ns).getD k nt0).lo), vint (((ns).getD k nt0).hi)]) (n := 5) Tryz.isAgg49 Tryz.sizeOf49 rfl ((cells_cast (wide_at NT.len nt0 _ _ (by omega)) hh26)) rfl rfl) (l_o (o_alloct Tryz.zeroValue49 rfl rfl ?_)))
    intro b27 w27 hzl27 hzr27 _ hb27 hty_b27 hE27
    have hne_b1_b27 : b1 ≠ b27 := by have := hb1.lt; omega
    have hne_b2_b27 : b2 ≠ b27 := by have := hb2.lt; omega
    have hne_b22_b27 : b22 ≠ b27 := by have := hb22.lt; omega
    have hbs_b27 : w.heap.size ≤ b27 := Nat.le_trans hsz hzl27
    replace hB := below_ext hB hE27 hsz
    replace hb1 := hb1.ext hE27
    replace hty_b1 := hty_b1.ext hE27
    replace hb2 := hb2.ext hE27
    replace hty_b2 := hty_b2.ext hE27
    replace hb22 := hb22.ext hE27
    replace hty_b22 := hty_b22.ext hE27
    replace hop := own_ext hop hE27
    replace hsz := Nat.le_trans hsz hE27.size
    refine l_o (o_storet (vs := [vint (((ns).getD k nt0).h), vint (((ns).getD k nt0).le), vint (((ns).getD k nt0).mo), vint (((ns).getD k nt0).lo), vint (((ns).getD k nt0).hi)]) (cs' := [vint (((ns).getD k nt0).h), vint (((ns).getD k nt0).le), vint (((ns).getD k nt0).mo), vint (((ns).getD k nt0).lo), vint (((ns).getD k nt0).hi)]) Tryz.sizeOf49 rfl rfl rfl rfl hb27 (Nat.le_of_ble_eq_true rfl) rfl rfl ?_)
    intro w28 hz28 hb27 hT28 hG28
    replace hB := below_upd hB hG28 hsz (by omega)
    replace hsz : w.heap.size ≤ w28.heap.size := by rw [hz28]; exact hsz
    replace hb1 := hb1.upd hG28 (by omega)
    replace hty_b1 := hty_b1.upd hG28 (by omega)
    replace hb2 := hb2.upd hG28 (by omega)
    replace hty_b2 := hty_b2.upd hG28 (by omega)
    replace hb22 := hb22.upd hG28 (by omega)
    replace hty_b22 := hty_b22.upd hG28 (by omega)
    replace hop := own_ty_upd hop hty_b27 hG28 (by decide)
    replace hty_b27 := hT28 _ hty_b27
    refine l_nil (r_forget [(1, .pointer _), (2, .pointer _), (3, .pointer _), (4, .int _ _), (5, .pointer _)] ⟨rfl, rfl, rfl, rfl, rfl, trivial⟩ (fun e29 => ?_))
    refine r_draw3 (Cls := fun w1 w2 => (Blk w1 b22 [vint cap, vint can, vint s0, vint s1, .slice oa X.length oc] → Blk w2 b22 [vint cap, vint can, vint s0, vint s1, .slice oa X.length oc]) ∧ (Blk w1 b27 [vint (((ns).getD k nt0).h), vint (((ns).getD k nt0).le), vint (((ns).getD k nt0).mo), vint (((ns).getD k nt0).lo), vint (((ns).getD k nt0).hi)] → Blk w2 b27 [vint (((ns).getD k nt0).h), vint (((ns).getD k nt0).le), vint (((ns).getD k nt0).mo), vint (((ns).getD k nt0).lo), vint (((ns).getD k nt0).hi)])) (fun w => ⟨(fun h => h), (fun h => h)⟩) (fun a b c h1 h2 => ⟨(fun h => h2.1 (h1.1 h)), (fun h => h2.2 (h1.2 h))⟩) (.op 0 (.op 1 (.op 2 (.op 3 (.op 4 (.op 5 (.op 6 (.op 7 (.op 8 (.op 9 (.op 10 (.op 11 (.op 12 (.op 13 (.op 14 (.op 15 (.done))))))))))))))))) [10, 12, 13, 15, 1015] 20 (by kernel_rfl) (by kernel_rfl) ?_
    intro w30 _ hE30
    replace hB := below_ext hB hE30 hsz
    replace hb1 := hb1.ext hE30
    replace hty_b1 := hty_b1.ext hE30
    replace hb2 := hb2.ext hE30
    replace hty_b2 := hty_b2.ext hE30
    replace hb22 := hb22.ext hE30
    replace hty_b22 := hty_b22.ext hE30
    replace hop := own_ext hop hE30
    replace hb27 := hb27.ext hE30
    replace hty_b27 := hty_b27.ext hE30
    replace hsz := Nat.le_trans hsz hE30.size
    refine m_q3 rfl rfl (fun w' hC' => q_fieldAddr (o' := 4) rfl fld46_3 rfl) (m_q3 rfl rfl (fun w' hC' => q_load Tryz.isAgg44 rfl (((hC'.1 hb22).has (o := 4) rfl)) rfl) (m_q3 rfl rfl (fun w' hC' => q_fieldAddr (o' := 0) rfl fld49_0 rfl) (m_q3 rfl rfl (fun w' hC' => q_load Tryz.isAgg3 rfl (((hC'.2 hb27).has (o := 0) rfl)) rfl) (m_q3 rfl rfl (fun w' hC' => q_fieldAddr (o' := 1) rfl fld49_1 rfl) (m_q3 rfl rfl (fun w' hC' => q_load Tryz.isAgg3 rfl (((hC'.2 hb27).has (o := 1) rfl)) rfl) (m_q3 rfl rfl (fun w' hC' => q_fieldAddr (o' := 2) rfl fld49_2 rfl) (m_q3 rfl rfl (fun w' hC' => q_load Tryz.isAgg3 rfl (((hC'.2 hb27).has (o := 2) rfl)) rfl) (m_q3 rfl rfl (fun w' hC' => q_fieldAddr (o' := 3) rfl fld49_3 rfl) (m_q3 rfl rfl (fun w' hC' => q_load_agg (n := 2) Tryz.isAgg23 Tryz.sizeOf23 rfl (((hC'.2 hb27).cells' (cs' := [_, _]) 3 2 rfl)) rfl rfl) ?_)))))))))
    refine m_o3 rfl rfl (o_call Tryz.call30 rfl (to8_ret _ _ _) rfl ?_)
    rintro _ w31 ⟨rfl, hE31⟩
    refine ⟨⟨(fun h => h.ext hE31), (fun h => h.ext hE31)⟩, ?_⟩
    replace hB := below_ext hB hE31 hsz
    replace hb1 := hb1.ext hE31
    replace hty_b1 := hty_b1.ext hE31
    replace hb2 := hb2.ext hE31
    replace hty_b2 := hty_b2.ext hE31
    replace hb22 := hb22.ext hE31
    replace hty_b22 := hty_b22.ext hE31
    replace hop := own_ext hop hE31
    replace hb27 := hb27.ext hE31
    replace hty_b27 := hty_b27.ext hE31
    replace hsz := Nat.le_trans hsz hE31.size
    refine m_q3 rfl rfl (fun w' hC' => q_build (v := .agg ⟨[vint (((ns).getD k nt0).h), vint (((ns).getD k nt0).le), vint (((ns).getD k nt0).mo), vint (((ns).getD k nt0).lo), vint (((ns).getD k nt0).hi)]⟩) (fun w => by kernel_rfl) rfl) (m_o3 rfl rfl (o_buildSlice (el := 75) (cs := [vint (((ns).getD k nt0).h), vint (((ns).getD k nt0).le), vint (((ns).getD k nt0).mo), vint (((ns).getD k nt0).lo), vint (((ns).getD k nt0).hi)]) Tryz.underlying44 el75 (by decide) (by kernel_rfl) rfl (by decide) rfl ?_))
    intro b32 w32 hzl32 hzr32 _ hb32 hE32 ho32
    refine ⟨⟨(fun h => h.ext hE32), (fun h => h.ext hE32)⟩, ?_⟩
    have hne_b1_b32 : b1 ≠ b32 := by have := hb1.lt; omega
    have hne_b2_b32 : b2 ≠ b32 := by have := hb2.lt; omega
    have hne_b22_b32 : b22 ≠ b32 := by have := hb22.lt; omega
    have hne_b27_b32 : b27 ≠ b32 := by have := hb27.lt; omega
    have hbs_b32 : w.heap.size ≤ b32 := Nat.le_trans hsz hzl32
    replace hB := below_ext hB hE32 hsz
    replace hb1 := hb1.ext hE32
    replace hty_b1 := hty_b1.ext hE32
    replace hb2 := hb2.ext hE32
    replace hty_b2 := hty_b2.ext hE32
    replace hb22 := hb22.ext hE32
    replace hty_b22 := hty_b22.ext hE32
    replace hop := own_ext hop hE32
    replace hty_b27 := hty_b27.ext hE32
    replace hsz := Nat.le_trans hsz hE32.size
    refine m_o3 rfl rfl (o_append_wide NT.one (X) (([⟨((ns).getD k nt0).h, ((ns).getD k nt0).le, ((ns).getD k nt0).mo, ((ns).getD k nt0).lo, ((ns).getD k nt0).hi⟩] : List NT)) Tryz.underlying44 el75 rfl rfl hop rfl (Row.of_owns ho32) (by (try simp only [List.length_append, List.length_cons, List.length_nil, List.length_take, List.length_drop, List.length_replicate]); omega) (by omega) rfl ?_)
    intro a34 c34 w34 hz34 ho34 hG34
    refine ⟨⟨(fun h => h.step hG34 (own_ty_ne hop hty_b22 (by decide))), (fun h => h.step hG34 (own_ty_ne hop hty_b27 (by decide)))⟩, ?_⟩
    replace hB := below_own hB hG34 hop (by omega) hsz
    replace hsz := Nat.le_trans hsz hG34.size
    replace hb1 := hb1.step hG34 (own_ty_ne hop hty_b1 (by decide))
    replace hb2 := hb2.step hG34 (own_ty_ne hop hty_b2 (by decide))
    replace hb22 := hb22.step hG34 (own_ty_ne hop hty_b22 (by decide))
    replace hty_b1 := TyAt.own hty_b1 hop hG34 (by decide)
    replace hty_b2 := TyAt.own hty_b2 hop hG34 (by decide)
    replace hty_b22 := TyAt.own hty_b22 hop hG34 (by decide)
    refine m_q3 rfl rfl (fun w' hC' => q_fieldAddr (o' := 4) rfl fld46_3 rfl) (m_last3 rfl rfl rfl (o_storet (vs := [.slice a34 ((X ++ ([⟨((ns).getD k nt0).h, ((ns).getD k nt0).le, ((ns).getD k nt0).mo, ((ns).getD k nt0).lo, ((ns).getD k nt0).hi⟩] : List NT)).length) c34]) (cs' := [vint cap, vint can, vint s0, vint s1, .slice a34 ((X ++ ([⟨((ns).getD k nt0).h, ((ns).getD k nt0).le, ((ns).getD k nt0).mo, ((ns).getD k nt0).lo, ((ns).getD k nt0).hi⟩] : List NT)).length) c34]) Tryz.sizeOf44 rfl rfl rfl rfl hb22 (Nat.le_of_ble_eq_true rfl) rfl rfl ?_))
    intro w35 hz35 hb22 hT35 hG35
    replace hB := below_upd hB hG35 hsz (by omega)
    replace hsz : w.heap.size ≤ w35.heap.size := by rw [hz35]; exact hsz
    replace hb1 := hb1.upd hG35 (by omega)
    replace hty_b1 := hty_b1.upd hG35 (by omega)
    replace hb2 := hb2.upd hG35 (by omega)
    replace hty_b2 := hty_b2.upd hG35 (by omega)
    replace ho34 := own_ty_upd ho34 hty_b22 hG35 (by decide)
    replace hty_b22 := hT35 _ hty_b22
    refine m_nil3 (r_forget [(1, .pointer _), (2, .pointer _), (3, .pointer _), (4, .int _ _)] ⟨rfl, rfl, rfl, rfl, trivial⟩ (fun e36 => (r_inBlock (r_region' (l_q (qmi rfl rfl) (l_q (q_add rfl rfl (by omega) rfl) (l_q (qai rfl rfl) (l_nil ?_))))))))
    exact ih24 (k + 1, a34, c34, X ++ ([⟨((ns).getD k nt0).h, ((ns).getD k nt0).le, ((ns).getD k nt0).mo, ((ns).getD k nt0).lo, ((ns).getD k nt0).hi⟩] : List NT)) _ _ ⟨⟨rfl, rfl, rfl, (vint_eq (by omega)), trivial⟩, (by omega), (by rw [hX]; exact nt_snoc hkn), (by rw [List.length_append, hXl]; rfl), hb22, ho34, hb1, hty_b1, hb2, hty_b2, hty_b22, hsz, hB⟩ (by first | omega | (dsimp only; omega))
   ·
    replace hc25 := dlt hc25
    refine r_exit rfl (r_seq (r_region' (l_q (q_load_agg (n := 5) Tryz.isAgg46 Tryz.sizeOf46 rfl ((hb22.cells' (cs' := [_, _, _, _, _]) 0 5 rfl)) rfl rfl) (l_o (o_storet (vs := [vint cap, vint can, vint s0, vint s1, .slice oa X.length oc]) (cs' := [vint cap, vint can, vint s0, vint s1, .slice oa X.length oc]) Tryz.sizeOf46 rfl rfl rfl rfl hb2 (Nat.le_of_ble_eq_true rfl) rfl rfl ?_)))))
    intro w37 hz37 hb2 hT37 hG37
    replace hB := below_upd hB hG37 hsz (by omega)
    replace hsz : w.heap.size ≤ w37.heap.size := by rw [hz37]; exact hsz
    replace hop := own_ty_upd hop hty_b2 hG37 (by decide)
    refine l_nil (r_ret_ (vs := [.agg _]) rfl Tryz.func10 rfl (.nil _) ⟨⟨_, _, rfl, run_loadVarA Tryz.isAgg46 Tryz.sizeOf46 (hb2.cells' (cs' := [_, _, _, _, _]) 0 5 rfl) rfl⟩, trivial⟩ ?_)
    have hke : k = ns.length := by omega
    subst hke
    rw [List.take_length] at hX
    subst hX
    exact ⟨oa, oc, rfl, hop, Ext.of_below hB⟩
theorem truth8_ret (st : Int) (ba : Option Addr) (bc : Nat) (bs : List Int) (w : World) (hbs : Row w ba bs.length bc 1 (bs.map vint)) (hbl : bs.length ≤ 2097152) : Ret Tryz.prog 15 [.agg ⟨[vint st, .slice ba bs.length bc]⟩] w (fun v w' => ∃ ta tc, v = .agg ⟨[vint st, .slice ta bs.length tc]⟩ ∧ Row w' ta bs.length tc 1 (bs.map vint) ∧ Ext w w') := by
 have hB := Below.refl w.heap.size w
 have hsz : w.heap.size ≤ w.heap.size := Nat.le_refl _
 refine ret_of_runs (args := [_]) Tryz.func15 rfl (Nat.le_of_ble_eq_true rfl) (by kernel_rfl) (r_seq (r_region' (l_o (o_boxt rfl rfl rfl ?_))))
 intro b1 w1 hzl1 hzr1 _ hb1 hty_b1 hE1
 have hbs_b1 : w.heap.size ≤ b1 := Nat.le_trans hsz hzl1
 replace hB := below_ext hB hE1 hsz
 replace hsz := Nat.le_trans hsz hE1.size
 refine l_o (o_alloct Tryz.zeroValue58 rfl rfl ?_)
 intro b2 w2 hzl2 hzr2 _ hb2 hty_b2 hE2
 have hne_b1_b2 : b1 ≠ b2 := by have := hb1.lt; omega
 have hbs_b2 : w.heap.size ≤ b2 := Nat.le_trans hsz hzl2
 replace hB := below_ext hB hE2 hsz
 replace hb1 := hb1.ext hE2
 replace hsz := Nat.le_trans hsz hE2.size
 refine l_nil (r_seq (r_draw ext_refl' ext_trans' [0, 1, 2, 3, 4, 5, 6] [4, 6, 1006] 12 (by kernel_rfl) (by kernel_rfl) ?_))
 intro w3 _ hE3
 replace hB := below_ext hB hE3 hsz
 replace hb1 := hb1.ext hE3
 replace hb2 := hb2.ext hE3
 replace hty_b2 := hty_b2.ext hE3
 replace hsz := Nat.le_trans hsz hE3.size
 refine m_q rfl rfl (fun w' hC' => q_fieldAddr (o' := 0) rfl fld52_0 rfl) (m_q rfl rfl (fun w' hC' => q_load Tryz.isAgg3 rfl (((hb1.has (o := 0) rfl).ext hC')) rfl) (m_q rfl rfl (fun w' hC' => q_fieldAddr (o' := 1) rfl fld52_1 rfl) (m_q rfl rfl (fun w' hC' => q_load Tryz.isAgg27 rfl (((hb1.has (o := 1) rfl).ext hC')) rfl) (m_o rfl rfl (o_call Tryz.call38 rfl (list8_ret _ _ bs _ (hbs.below hB) (by omega)) rfl ?_)))))
 rintro _ w4 ⟨a4_0, c4_0, rfl, ho4_0, hE4⟩
 replace ho4_0 := own_mono ho4_0 (show w.heap.size ≤ _ by omega)
 refine ⟨hE4, ?_⟩
 replace hB := below_ext hB hE4 hsz
 replace hb2 := hb2.ext hE4
 replace hty_b2 := hty_b2.ext hE4
 replace hsz := Nat.le_trans hsz hE4.size
 refine m_q rfl rfl (fun w' hC' => q_build (v := .agg ⟨[vint st, .slice a4_0 ((bs).length) c4_0]⟩) (fun w => by kernel_rfl) rfl) (m_last rfl rfl rfl (o_storet (vs := [vint st, .slice a4_0 ((bs).length) c4_0]) (cs' := [vint st, .slice a4_0 ((bs).length) c4_0]) Tryz.sizeOf58 rfl rfl rfl rfl hb2 (Nat.le_of_ble_eq_true rfl) rfl rfl ?_))
 intro w5 hz5 hb2 hT5 hG5
 replace hB := below_upd hB hG5 hsz (by omega)
 replace hsz : w.heap.size ≤ w5.heap.size := by rw [hz5]; exact hsz
 replace ho4_0 := own_ty_upd ho4_0 hty_b2 hG5 (by decide)
 refine m_nil (r_ret_ (vs := [.agg _]) rfl Tryz.func15 rfl (.nil _) ⟨⟨_, _, rfl, run_loadVarA Tryz.isAgg58 Tryz.sizeOf58 (hb2.cells' (cs' := [_, _]) 0 2 rfl) rfl⟩, trivial⟩ ?_)
 exact ⟨_, _, rfl, Row.of_owns ho4_0, Ext.of_below hB⟩
theorem word8_ret (wa : Option Addr) (wc : Nat) (ws : List Int) (at_ : Int) (w : World) (hw : Row w wa ws.length wc 1 (ws.map (Value.int .u16))) (hwn : ws.length ≤ 2097152) (hwr : ∀ x ∈ ws, 0 ≤ x ∧ x ≤ 65535) (hat : 0 ≤ at_) : Ret Tryz.prog 33 [.slice wa ws.length wc, vint at_] w (fun v w' => ∃ x : Int, v = vint x ∧ 0 ≤ x ∧ x ≤ 65535 ∧ Ext w w') := by
 have hB := Below.refl w.heap.size w
 have hsz : w.heap.size ≤ w.heap.size := Nat.le_refl _
 refine ret_of_runs (args := [_, _]) Tryz.func33 rfl (Nat.le_of_ble_eq_true rfl) (by kernel_rfl) (r_seq (r_region' (l_q (qai rfl rfl) (l_nil (r_seq (r_seq (r_region' (l_q (qms rfl rfl) (l_q (q_len rfl Tryz.underlying34 rfl rfl) (l_q (q_eql rfl rfl rfl) (l_nil (r_cond rfl (fun hc1 => ?_) (fun hc1 => ?_)))))))))))))
 ·
  replace hc1 := dt hc1
  refine r_seq (r_region' (l_q (qai rfl rfl) (l_nil (r_ret_ (vs := [.int _ _]) rfl Tryz.func33 rfl (.nil _) ⟨rfl, trivial⟩ ?_))))
  exact ⟨0, rfl, by decide, by decide, Ext.of_below hB⟩
 ·
  replace hc1 := df hc1
  refine r_skip (r_seq ?_)
  have ha1 := Int.emod_nonneg at_ (show (ws.length : Int) ≠ 0 by omega)
  have ha2 := Int.emod_lt_of_pos at_ (show (0 : Int) < ws.length by omega)
  have hwx := hwr _ (getD_lt (l := ws) (d := 0) (i := (at_ % (ws.length : Int)).toNat) (by omega))
  refine r_region' (l_q (qms rfl rfl) (l_q (qmi rfl rfl) (l_q (qms rfl rfl) (l_q (q_len rfl Tryz.underlying34 rfl rfl) (l_q (q_rem rfl rfl (by omega) rfl) ?_)))))
  obtain ⟨b2, o2, ha2, hh2⟩ := (hw.below hB).at1 (at_ % (ws.length : Int)).toNat ((ws).getD (at_ % (ws.length : Int)).toNat 0) (getD_some (by omega))
  refine l_q (q_indexAddr1 Tryz.underlying34 Tryz.sizeOf124 rfl ha2 rfl (by omega) rfl) (l_q (q_load Tryz.isAgg124 rfl (hh2) rfl) (l_q (q_toInt Tryz.underlying124 Tryz.underlying3 rfl (by omega) rfl) (l_q (qai rfl rfl) (l_nil (r_forget [(4, .int _ _)] ⟨rfl, trivial⟩ (fun e3 => (r_ret_ (vs := [.int _ _]) rfl Tryz.func33 rfl (.nil _) ⟨rfl, trivial⟩ ?_)))))))
  exact ⟨_, rfl, hwx.1, hwx.2, Ext.of_below hB⟩
theorem picked8_ret (lo hi x : Int) (w : World) (hr : 0 ≤ lo ∧ lo ≤ hi ∧ hi ≤ 400) (hx : 0 ≤ x ∧ x ≤ 65535) : Ret Tryz.prog 32 [.agg ⟨[vint lo, vint hi]⟩, vint x] w (fun v w' => ∃ y : Int, v = vint y ∧ lo ≤ y ∧ y ≤ hi ∧ Ext w w') := by
 have hB := Below.refl w.heap.size w
 have hsz : w.heap.size ≤ w.heap.size := Nat.le_refl _
 refine ret_of_runs (args := [_, _]) Tryz.func32 rfl (Nat.le_of_ble_eq_true rfl) (by kernel_rfl) (r_seq (r_region' (l_o (o_box rfl rfl rfl ?_))))
 intro b1 w1 hzl1 hzr1 _ hb1 hE1
 have hbs_b1 : w.heap.size ≤ b1 := Nat.le_trans hsz hzl1
 replace hB := below_ext hB hE1 hsz
 replace hsz := Nat.le_trans hsz hE1.size
 refine l_q (qai rfl rfl) (l_nil (r_seq (r_seq (r_region' (l_q (qmi rfl rfl) (l_q (q_rem rfl rfl (by omega) rfl) (l_nil (r_block (r_seq (r_region' (l_q (q_eql rfl rfl rfl) (l_q (qab rfl rfl) (l_nil (r_cond rfl (fun hc2 => ?_) (fun hc2 => ?_)))))))))))))))
 ·
  replace hc2 := dt hc2
  refine r_seq (r_region' (l_q (q_fieldAddr (o' := 0) rfl fld23_0 rfl) (l_q (q_load Tryz.isAgg3 rfl ((hb1.has (o := 0) rfl)) rfl) (l_q (qai rfl rfl) (l_nil (r_ret_ (vs := [.int _ _]) rfl Tryz.func32 rfl (.nil _) ⟨rfl, trivial⟩ ?_))))))
  exact ⟨_, rfl, by omega, by omega, Ext.of_below hB⟩
 ·
  replace hc2 := df hc2
  refine r_seq (r_region' (l_q (q_eql rfl rfl rfl) (l_q (qab rfl rfl) (l_nil (r_cond rfl (fun hc3 => ?_) (fun hc3 => ?_))))))
  ·
   replace hc3 := dt hc3
   refine r_seq (r_region' (l_q (q_fieldAddr (o' := 1) rfl fld23_1 rfl) (l_q (q_load Tryz.isAgg3 rfl ((hb1.has (o := 1) rfl)) rfl) (l_q (qai rfl rfl) (l_nil (r_forget [(4, .int _ _)] ⟨rfl, trivial⟩ (fun e4 => (r_ret_ (vs := [.int _ _]) rfl Tryz.func32 rfl (.nil _) ⟨rfl, trivial⟩ ?_))))))))
   exact ⟨_, rfl, by omega, by omega, Ext.of_below hB⟩
  ·
   replace hc3 := df hc3
   refine r_skip (r_inBlock (r_seq ?_))
   have hm1 := Int.emod_nonneg (x / 4) (show hi - lo + 1 ≠ 0 by omega)
   have hm2 := Int.emod_lt_of_pos (x / 4) (show (0 : Int) < hi - lo + 1 by omega)
   refine r_draw ext_refl' ext_trans' [0, 1, 2, 3, 4, 5, 6, 7, 8, 9, 10, 11, 12] [] 20 (by kernel_rfl) (by kernel_rfl) ?_
   intro w5 _ hE5
   replace hB := below_ext hB hE5 hsz
   replace hb1 := hb1.ext hE5
   replace hsz := Nat.le_trans hsz hE5.size
   refine m_q rfl rfl (fun w' hC' => q_fieldAddr (o' := 0) rfl fld23_0 rfl) (m_q rfl rfl (fun w' hC' => q_load Tryz.isAgg3 rfl (((hb1.has (o := 0) rfl).ext hC')) rfl) (m_q rfl rfl (fun w' hC' => qmi rfl rfl) (m_q rfl rfl (fun w' hC' => q_quo rfl rfl (by omega) rfl) (m_q rfl rfl (fun w' hC' => q_fieldAddr (o' := 1) rfl fld23_1 rfl) (m_q rfl rfl (fun w' hC' => q_load Tryz.isAgg3 rfl (((hb1.has (o := 1) rfl).ext hC')) rfl) (m_q rfl rfl (fun w' hC' => q_fieldAddr (o' := 0) rfl fld23_0 rfl) (m_q rfl rfl (fun w' hC' => q_load Tryz.isAgg3 rfl (((hb1.has (o := 0) rfl).ext hC')) rfl) (m_q rfl rfl (fun w' hC' => q_sub rfl rfl (by omega) rfl) (m_q rfl rfl (fun w' hC' => q_add rfl rfl (by omega) rfl) (m_q rfl rfl (fun w' hC' => q_rem rfl rfl (by omega) rfl) (m_q rfl rfl (fun w' hC' => q_add rfl rfl (by omega) rfl) (m_q rfl rfl (fun w' hC' => qai rfl rfl) (m_nil ?_)))))))))))))
   refine r_forget [(4, .int _ _)] ⟨rfl, trivial⟩ (fun e6 => (r_ret_ (vs := [.int _ _]) rfl Tryz.func32 rfl (.nil _) ⟨rfl, trivial⟩ ?_))
   exact ⟨_, rfl, by omega, by omega, Ext.of_below hB⟩
theorem Picked8_ret (cap can s0 s1 : Int) (sa : Option Addr) (sc : Nat) (ns : List NT) (wa : Option Addr) (wc : Nat) (ws : List Int) (w : World) (hns : Row w sa ns.length sc 5 (ns.flatMap NT.enc)) (hw : Row w wa ws.length wc 1 (ws.map (Value.int .u16))) (hwn : ws.length ≤ 2097152) (hwr : ∀ x ∈ ws, 0 ≤ x ∧ x ≤ 65535) (hok : OkS cap can s0 s1 ns) : Ret Tryz.prog 13 [.agg ⟨[vint cap, vint can, vint s0, vint s1, .slice sa ns.length sc]⟩, .slice wa ws.length wc] w (fun v w' => ∃ st ta tc X, v = .agg ⟨[vint st, .slice ta (List.length X) tc]⟩ ∧ Row w' ta (List.length X) tc 1 (X.map vint) ∧ (s0 ≤ st ∧ st ≤ s1) ∧ BurnP ns X ∧ Ext w w') := by
 have hn6 := hok.six
 have hst := hok.st
 have hcap := hok.cap1
 have hB := Below.refl w.heap.size w
 have hsz : w.heap.size ≤ w.heap.size := Nat.le_refl _
 refine ret_of_runs (args := [_, _]) Tryz.func13 rfl (Nat.le_of_ble_eq_true rfl) (by kernel_rfl) (r_seq (r_region' (l_o (o_boxt rfl rfl rfl ?_))))
 intro b1 w1 hzl1 hzr1 _ hb1 hty_b1 hE1
 have hbs_b1 : w.heap.size ≤ b1 := Nat.le_trans hsz hzl1
 replace hB := below_ext hB hE1 hsz
 replace hsz := Nat.le_trans hsz hE1.size
 refine l_o (o_alloct Tryz.zeroValue52 rfl rfl ?_)
 intro b2 w2 hzl2 hzr2 _ hb2 hty_b2 hE2
 have hne_b1_b2 : b1 ≠ b2 := by have := hb1.lt; omega
 have hbs_b2 : w.heap.size ≤ b2 := Nat.le_trans hsz hzl2
 replace hB := below_ext hB hE2 hsz
 replace hb1 := hb1.ext hE2
 replace hty_b1 := hty_b1.ext hE2
 replace hsz := Nat.le_trans hsz hE2.size
 refine l_nil (r_seq (r_draw3 ext_refl' ext_trans' (.op 0 (.op 1 (.op 2 (.fork 6 (.op 3 (.op 4 (.op 5 (.op 7 (.done))))) (.op 3 (.fork 6 (.op 4 (.op 5 (.op 7 (.done)))) (.op 4 (.op 5 (.op 6 (.op 7 (.done))))))))))) [3, 4, 6, 7, 1007] 20 (by kernel_rfl) (by kernel_rfl) ?_))
 intro w3 _ hE3
 replace hB := below_ext hB hE3 hsz
 replace hb1 := hb1.ext hE3
 replace hty_b1 := hty_b1.ext hE3
 replace hb2 := hb2.ext hE3
 replace hty_b2 := hty_b2.ext hE3
 replace hsz := Nat.le_trans hsz hE3.size
 refine m_q3 rfl rfl (fun w' hC' => q_fieldAddr (o' := 2) rfl fld26_2 rfl) (m_q3 rfl rfl (fun w' hC' => q_load_agg (n := 2) Tryz.isAgg23 Tryz.sizeOf23 rfl (((hb1.cells' (cs' := [_, _]) 2 2 rfl).ext hC')) rfl rfl) (m_q3 rfl rfl (fun w' hC' => qms rfl rfl) (m_fork3 ?_ ?_)))
 ·
  refine m_o3 rfl rfl (o_alloct Tryz.zeroValue52 rfl rfl ?_)
  intro b4 w4 hzl4 hzr4 _ hb4 hty_b4 hE4
  refine ⟨hE4, ?_⟩
  have hne_b1_b4 : b1 ≠ b4 := by have := hb1.lt; omega
  have hne_b2_b4 : b2 ≠ b4 := by have := hb2.lt; omega
  have hbs_b4 : w.heap.size ≤ b4 := Nat.le_trans hsz hzl4
  replace hB := below_ext hB hE4 hsz
  replace hb1 := hb1.ext hE4
  replace hty_b1 := hty_b1.ext hE4
  replace hb2 := hb2.ext hE4
  replace hty_b2 := hty_b2.ext hE4
  replace hsz := Nat.le_trans hsz hE4.size
  refine m_o3 rfl rfl (o_call Tryz.call33 rfl (word8_ret wa wc ws 0 _ (hw.below hB) hwn hwr (by omega)) rfl ?_)
  rintro _ w5 ⟨x5, rfl, hx5, hy5, hE5⟩
  refine ⟨hE5, ?_⟩
  replace hB := below_ext hB hE5 hsz
  replace hb1 := hb1.ext hE5
  replace hty_b1 := hty_b1.ext hE5
  replace hb2 := hb2.ext hE5
  replace hty_b2 := hty_b2.ext hE5
  replace hb4 := hb4.ext hE5
  replace hty_b4 := hty_b4.ext hE5
  replace hsz := Nat.le_trans hsz hE5.size
  refine m_o3 rfl rfl (o_call Tryz.call32 rfl (picked8_ret s0 s1 x5 _ (by omega) (by omega)) rfl ?_)
  rintro _ w6 ⟨y6, rfl, hp6, hq6, hE6⟩
  refine ⟨hE6, ?_⟩
  replace hB := below_ext hB hE6 hsz
  replace hb1 := hb1.ext hE6
  replace hty_b1 := hty_b1.ext hE6
  replace hb2 := hb2.ext hE6
  replace hty_b2 := hty_b2.ext hE6
  replace hb4 := hb4.ext hE6
  replace hty_b4 := hty_b4.ext hE6
  replace hsz := Nat.le_trans hsz hE6.size
  refine m_q3 rfl rfl (fun w' hC' => q_build (v := .agg ⟨[vint y6, .slice none 0 0]⟩) (fun w => by kernel_rfl) rfl) (m_last3 rfl rfl rfl (o_storet (vs := [vint y6, .slice none 0 0]) (cs' := [vint y6, .slice none 0 0]) Tryz.sizeOf52 rfl rfl rfl rfl hb4 (Nat.le_of_ble_eq_true rfl) rfl rfl ?_))
  intro w7 hz7 hb4 hT7 hG7
  replace hB := below_upd hB hG7 hsz (by omega)
  replace hsz : w.heap.size ≤ w7.heap.size := by rw [hz7]; exact hsz
  replace hb1 := hb1.upd hG7 (by omega)
  replace hty_b1 := hty_b1.upd hG7 (by omega)
  replace hb2 := hb2.upd hG7 (by omega)
  replace hty_b2 := hty_b2.upd hG7 (by omega)
  replace hty_b4 := hT7 _ hty_b4
  refine m_nil3 (r_seq (r_seq (r_region' (l_q (qai rfl rfl) (l_nil (r_block (r_rounds (α := Nat × (Option Addr) × Nat × (List Int)) (fun ⟨k, oa, oc, X⟩ e wl => Knows e [(1, .slice wa ws.length wc), (2, ptr b1 0), (4, ptr b2 0), (5, ptr b4 0), (6, vint (k : Int))] ∧ (k ≤ ns.length) ∧ (X.length = k) ∧ (∀ j, j < k → (ns.getD j nt0).lo ≤ X.getD j 0 ∧ X.getD j 0 ≤ (ns.getD j nt0).hi) ∧ (Blk wl b4 [vint y6, .slice oa ((X).length) oc]) ∧ (wl.ownsRow w.heap.size 3 1 (.slice oa ((X).length) oc) ((X).length) ((X).map vint)) ∧ (Blk wl b1 [vint cap, vint can, vint s0, vint s1, .slice sa ns.length sc]) ∧ (TyAt wl b1 26) ∧ (Blk wl b2 [vint 0, .slice none 0 0]) ∧ (TyAt wl b2 52) ∧ (TyAt wl b4 52) ∧ (w.heap.size ≤ wl.heap.size) ∧ (Below w.heap.size w wl)) (fun ⟨k, oa, oc, X⟩ => ns.length - k) (0, none, 0, []) ?_ ?_)))))))
  ·
   exact ⟨⟨rfl, rfl, rfl, rfl, rfl, trivial⟩, (Nat.zero_le _), rfl, (fun i hi => absurd hi (Nat.not_lt_zero _)), hb4, (World.ownsRow_nil _ _ _ _), hb1, hty_b1, hb2, hty_b2, hty_b4, hsz, hB⟩
  ·
   rintro ⟨k, oa, oc, X⟩ el8 wl8 ⟨hkn, hk, hXl, hXr, hb4, hop, hb1, hty_b1, hb2, hty_b2, hty_b4, hsz, hB⟩ ih8
   obtain ⟨e8, rfl⟩ := knows_env hkn
   refine r_seq (r_seq (r_region' (l_q (qmi rfl rfl) (l_q (q_fieldAddr (o' := 4) rfl fld26_3 rfl) (l_q (q_load Tryz.isAgg24 rfl ((hb1.has (o := 4) rfl)) rfl) (l_q (q_len rfl Tryz.underlying24 rfl rfl) (l_q (q_lss rfl rfl rfl) (l_nil (r_cond rfl (fun hc9 => ?_) (fun hc9 => ?_))))))))))
   ·
    replace hc9 := dt hc9
    have hkn : k < ns.length := by omega
    obtain ⟨hq1, hq2, hq3⟩ := hok.at hkn
    refine r_skip (r_seq (r_block (r_draw ext_refl' ext_trans' [0, 1, 2, 3, 4, 5, 6, 7, 8, 9, 10, 11, 12, 13, 14, 15, 16] [11, 12, 13, 14, 16, 1014, 1016] 20 (by kernel_rfl) (by kernel_rfl) ?_)))
    intro w10 _ hE10
    replace hB := below_ext hB hE10 hsz
    replace hb1 := hb1.ext hE10
    replace hty_b1 := hty_b1.ext hE10
    replace hb2 := hb2.ext hE10
    replace hty_b2 := hty_b2.ext hE10
    replace hb4 := hb4.ext hE10
    replace hty_b4 := hty_b4.ext hE10
    replace hop := own_ext hop hE10
    replace hsz := Nat.le_trans hsz hE10.size
    refine m_q rfl rfl (fun w' hC' => q_fieldAddr (o' := 1) rfl fld52_1 rfl) (m_q rfl rfl (fun w' hC' => q_load Tryz.isAgg27 rfl (((hb4.has (o := 1) rfl).ext hC')) rfl) (m_q rfl rfl (fun w' hC' => q_fieldAddr (o' := 4) rfl fld26_3 rfl) (m_q rfl rfl (fun w' hC' => q_load Tryz.isAgg24 rfl (((hb1.has (o := 4) rfl).ext hC')) rfl) (m_q rfl rfl (fun w' hC' => qmi rfl rfl) ?_))))
    obtain ⟨b11, o11, ha11, hh11⟩ := (hns.below hB).at (by decide) k (by omega)
    refine m_q rfl rfl (fun w' hC' => q_indexAddr Tryz.underlying24 Tryz.sizeOf49 rfl ha11 rfl (by omega) rfl) (m_q rfl rfl (fun w' hC' => q_fieldAddr (o' := 3) rfl fld49_3 rfl) (m_q rfl rfl (fun w' hC' => q_load_agg (cs := [vint (((ns).getD k nt0).lo), vint (((ns).getD k nt0).hi)]) (n := 2) Tryz.isAgg23 Tryz.sizeOf23 rfl (((cells_sub (cells_cast (wide_at NT.len nt0 _ _ (by omega)) hh11) 3 2 rfl).ext hC')) rfl rfl) (m_q rfl rfl (fun w' hC' => qms rfl rfl) (m_q rfl rfl (fun w' hC' => qmi rfl rfl) (m_q rfl rfl (fun w' hC' => q_add rfl rfl (by omega) rfl) (m_o rfl rfl (o_call Tryz.call33 rfl (word8_ret wa wc ws ((k : Int) + 1) _ (hw.below hB) hwn hwr (by omega)) rfl ?_)))))))
    rintro _ w12 ⟨x12, rfl, hx12, hy12, hE12⟩
    refine ⟨hE12, ?_⟩
    replace hB := below_ext hB hE12 hsz
    replace hb1 := hb1.ext hE12
    replace hty_b1 := hty_b1.ext hE12
    replace hb2 := hb2.ext hE12
    replace hty_b2 := hty_b2.ext hE12
    replace hb4 := hb4.ext hE12
    replace hty_b4 := hty_b4.ext hE12
    replace hop := own_ext hop hE12
    replace hsz := Nat.le_trans hsz hE12.size
    refine m_o rfl rfl (o_call Tryz.call32 rfl (picked8_ret (((ns).getD k nt0).lo) (((ns).getD k nt0).hi) x12 _ (by omega) (by omega)) rfl ?_)
    rintro _ w13 ⟨y13, rfl, hp13, hq13, hE13⟩
    refine ⟨hE13, ?_⟩
    replace hB := below_ext hB hE13 hsz
    replace hb1 := hb1.ext hE13
    replace hty_b1 := hty_b1.ext hE13
    replace hb2 := hb2.ext hE13
    replace hty_b2 := hty_b2.ext hE13
    replace hb4 := hb4.ext hE13
    replace hty_b4 := hty_b4.ext hE13
    replace hop := own_ext hop hE13
    replace hsz := Nat.le_trans hsz hE13.size
    refine m_o rfl rfl (o_buildSlice (el := 3) (cs := [vint y13]) Tryz.underlying27 el3 (by decide) (by kernel_rfl) rfl (by decide) rfl ?_)
    intro b14 w14 hzl14 hzr14 _ hb14 hE14 ho14
    refine ⟨hE14, ?_⟩
    have hne_b1_b14 : b1 ≠ b14 := by have := hb1.lt; omega
    have hne_b2_b14 : b2 ≠ b14 := by have := hb2.lt; omega
    have hne_b4_b14 : b4 ≠ b14 := by have := hb4.lt; omega
    have hbs_b14 : w.heap.size ≤ b14 := Nat.le_trans hsz hzl14
    replace hB := below_ext hB hE14 hsz
    replace hb1 := hb1.ext hE14
    replace hty_b1 := hty_b1.ext hE14
    replace hb2 := hb2.ext hE14
    replace hty_b2 := hty_b2.ext hE14
    replace hb4 := hb4.ext hE14
    replace hty_b4 := hty_b4.ext hE14
    replace hop := own_ext hop hE14
    replace hsz := Nat.le_trans hsz hE14.size
    refine m_last rfl rfl rfl (o_append_map (f := vint) (X) ([y13]) Tryz.underlying27 el3 rfl rfl hop rfl (Row.of_owns ho14) (fun _ => rfl) (by (try simp only [List.length_append, List.length_cons, List.length_nil, List.length_take, List.length_drop, List.length_replicate]); omega) (by omega) rfl ?_)
    intro a15 c15 w15 hz15 ho15 hG15
    replace hB := below_own hB hG15 hop (by omega) hsz
    replace hsz := Nat.le_trans hsz hG15.size
    replace hb1 := hb1.step hG15 (own_ty_ne hop hty_b1 (by decide))
    replace hb2 := hb2.step hG15 (own_ty_ne hop hty_b2 (by decide))
    replace hb4 := hb4.step hG15 (own_ty_ne hop hty_b4 (by decide))
    replace hty_b1 := TyAt.own hty_b1 hop hG15 (by decide)
    replace hty_b2 := TyAt.own hty_b2 hop hG15 (by decide)
    replace hty_b4 := TyAt.own hty_b4 hop hG15 (by decide)
    refine m_q rfl rfl (fun w' hC' => q_fieldAddr (o' := 1) rfl fld52_1 rfl) (m_last rfl rfl rfl (o_storet (vs := [.slice a15 ((X ++ [y13]).length) c15]) (cs' := [vint y6, .slice a15 ((X ++ [y13]).length) c15]) Tryz.sizeOf27 rfl rfl rfl rfl hb4 (Nat.le_of_ble_eq_true rfl) rfl rfl ?_))
    intro w16 hz16 hb4 hT16 hG16
    replace hB := below_upd hB hG16 hsz (by omega)
    replace hsz : w.heap.size ≤ w16.heap.size := by rw [hz16]; exact hsz
    replace hb1 := hb1.upd hG16 (by omega)
    replace hty_b1 := hty_b1.upd hG16 (by omega)
    replace hb2 := hb2.upd hG16 (by omega)
    replace hty_b2 := hty_b2.upd hG16 (by omega)
    replace ho15 := own_ty_upd ho15 hty_b4 hG16 (by decide)
    replace hty_b4 := hT16 _ hty_b4
    refine m_nil (r_forget [(1, .slice _ _ _), (2, .pointer _), (4, .pointer _), (5, .pointer _), (6, .int _ _)] ⟨rfl, rfl, rfl, rfl, rfl, trivial⟩ (fun e17 => (r_inBlock (r_region' (l_q (qmi rfl rfl) (l_q (q_add rfl rfl (by omega) rfl) (l_q (qai rfl rfl) (l_nil ?_))))))))
    exact ih8 (k + 1, a15, c15, X ++ [y13]) _ _ ⟨⟨rfl, rfl, rfl, rfl, (vint_eq (by omega)), trivial⟩, (by omega), (by rw [List.length_append, hXl]; rfl), (burn_snoc hXl hXr ⟨by omega, by omega⟩), hb4, ho15, hb1, hty_b1, hb2, hty_b2, hty_b4, hsz, hB⟩ (by first | omega | (dsimp only; omega))
   ·
    replace hc9 := dlt hc9
    refine r_exit rfl (r_seq (r_region' (l_q (q_load_agg (n := 2) Tryz.isAgg52 Tryz.sizeOf52 rfl ((hb4.cells' (cs' := [_, _]) 0 2 rfl)) rfl rfl) (l_o (o_storet (vs := [vint y6, .slice oa ((X).length) oc]) (cs' := [vint y6, .slice oa ((X).length) oc]) Tryz.sizeOf52 rfl rfl rfl rfl hb2 (Nat.le_of_ble_eq_true rfl) rfl rfl ?_)))))
    intro w18 hz18 hb2 hT18 hG18
    replace hB := below_upd hB hG18 hsz (by omega)
    replace hsz : w.heap.size ≤ w18.heap.size := by rw [hz18]; exact hsz
    replace hb1 := hb1.upd hG18 (by omega)
    replace hty_b1 := hty_b1.upd hG18 (by omega)
    replace hop := own_ty_upd hop hty_b2 hG18 (by decide)
    replace hty_b2 := hT18 _ hty_b2
    refine l_nil (r_forget [(4, .pointer _)] ⟨rfl, trivial⟩ (fun e19 => (r_ret_ (vs := [.agg _]) rfl Tryz.func13 rfl (.nil _) ⟨⟨_, _, rfl, run_loadVarA Tryz.isAgg52 Tryz.sizeOf52 (hb2.cells' (cs' := [_, _]) 0 2 rfl) rfl⟩, trivial⟩ ?_)))
    have hke : k = ns.length := by omega
    subst hke
    exact ⟨_, oa, oc, X, rfl, Row.of_owns hop, ⟨by omega, by omega⟩, ⟨hXl, hXr⟩, Ext.of_below hB⟩
 ·
  refine m_o3 rfl rfl (o_call Tryz.call33 rfl (word8_ret wa wc ws 0 _ (hw.below hB) hwn hwr (by omega)) rfl ?_)
  rintro _ w20 ⟨x20, rfl, hx20, hy20, hE20⟩
  refine ⟨hE20, ?_⟩
  replace hB := below_ext hB hE20 hsz
  replace hb1 := hb1.ext hE20
  replace hty_b1 := hty_b1.ext hE20
  replace hb2 := hb2.ext hE20
  replace hty_b2 := hty_b2.ext hE20
  replace hsz := Nat.le_trans hsz hE20.size
  refine m_fork3 ?_ ?_
  ·
   refine m_o3 rfl rfl (o_alloct Tryz.zeroValue52 rfl rfl ?_)
   intro b21 w21 hzl21 hzr21 _ hb21 hty_b21 hE21
   refine ⟨hE21, ?_⟩
   have hne_b1_b21 : b1 ≠ b21 := by have := hb1.lt; omega
   have hne_b2_b21 : b2 ≠ b21 := by have := hb2.lt; omega
   have hbs_b21 : w.heap.size ≤ b21 := Nat.le_trans hsz hzl21
   replace hB := below_ext hB hE21 hsz
   replace hb1 := hb1.ext hE21
   replace hty_b1 := hty_b1.ext hE21
   replace hb2 := hb2.ext hE21
   replace hty_b2 := hty_b2.ext hE21
   replace hsz := Nat.le_trans hsz hE21.size
   refine m_o3 rfl rfl (o_call Tryz.call32 rfl (picked8_ret s0 s1 x20 _ (by omega) (by omega)) rfl ?_)
   rintro _ w22 ⟨y22, rfl, hp22, hq22, hE22⟩
   refine ⟨hE22, ?_⟩
   replace hB := below_ext hB hE22 hsz
   replace hb1 := hb1.ext hE22
   replace hty_b1 := hty_b1.ext hE22
   replace hb2 := hb2.ext hE22
   replace hty_b2 := hty_b2.ext hE22
   replace hb21 := hb21.ext hE22
   replace hty_b21 := hty_b21.ext hE22
   replace hsz := Nat.le_trans hsz hE22.size
   refine m_q3 rfl rfl (fun w' hC' => q_build (v := .agg ⟨[vint y22, .slice none 0 0]⟩) (fun w => by kernel_rfl) rfl) (m_last3 rfl rfl rfl (o_storet (vs := [vint y22, .slice none 0 0]) (cs' := [vint y22, .slice none 0 0]) Tryz.sizeOf52 rfl rfl rfl rfl hb21 (Nat.le_of_ble_eq_true rfl) rfl rfl ?_))
   intro w23 hz23 hb21 hT23 hG23
   replace hB := below_upd hB hG23 hsz (by omega)
   replace hsz : w.heap.size ≤ w23.heap.size := by rw [hz23]; exact hsz
   replace hb1 := hb1.upd hG23 (by omega)
   replace hty_b1 := hty_b1.upd hG23 (by omega)
   replace hb2 := hb2.upd hG23 (by omega)
   replace hty_b2 := hty_b2.upd hG23 (by omega)
   replace hty_b21 := hT23 _ hty_b21
   refine m_nil3 (r_seq (r_seq (r_region' (l_q (qai rfl rfl) (l_nil (r_block (r_rounds (α := Nat × (Option Addr) × Nat × (List Int)) (fun ⟨k, oa, oc, X⟩ e wl => Knows e [(1, .slice wa ws.length wc), (2, ptr b1 0), (4, ptr b2 0), (5, ptr b21 0), (6, vint (k : Int))] ∧ (k ≤ ns.length) ∧ (X.length = k) ∧ (∀ j, j < k → (ns.getD j nt0).lo ≤ X.getD j 0 ∧ X.getD j 0 ≤ (ns.getD j nt0).hi) ∧ (Blk wl b21 [vint y22, .slice oa ((X).length) oc]) ∧ (wl.ownsRow w.heap.size 3 1 (.slice oa ((X).length) oc) ((X).length) ((X).map vint)) ∧ (Blk wl b1 [vint cap, vint can, vint s0, vint s1, .slice sa ns.length sc]) ∧ (TyAt wl b1 26) ∧ (Blk wl b2 [vint 0, .slice none 0 0]) ∧ (TyAt wl b2 52) ∧ (TyAt wl b21 52) ∧ (w.heap.size ≤ wl.heap.size) ∧ (Below w.heap.size w wl)) (fun ⟨k, oa, oc, X⟩ => ns.length - k) (0, none, 0, []) ?_ ?_)))))))
   ·
    exact ⟨⟨rfl, rfl, rfl, rfl, rfl, trivial⟩, (Nat.zero_le _), rfl, (fun i hi => absurd hi (Nat.not_lt_zero _)), hb21, (World.ownsRow_nil _ _ _ _), hb1, hty_b1, hb2, hty_b2, hty_b21, hsz, hB⟩
   ·
    rintro ⟨k, oa, oc, X⟩ el24 wl24 ⟨hkn, hk, hXl, hXr, hb21, hop, hb1, hty_b1, hb2, hty_b2, hty_b21, hsz, hB⟩ ih24
    obtain ⟨e24, rfl⟩ := knows_env hkn
    refine r_seq (r_seq (r_region' (l_q (qmi rfl rfl) (l_q (q_fieldAddr (o' := 4) rfl fld26_3 rfl) (l_q (q_load Tryz.isAgg24 rfl ((hb1.has (o := 4) rfl)) rfl) (l_q (q_len rfl Tryz.underlying24 rfl rfl) (l_q (q_lss rfl rfl rfl) (l_nil (r_cond rfl (fun hc25 => ?_) (fun hc25 => ?_))))))))))
    ·
     replace hc25 := dt hc25
     have hkn : k < ns.length := by omega
     obtain ⟨hq1, hq2, hq3⟩ := hok.at hkn
     refine r_skip (r_seq (r_block (r_draw ext_refl' ext_trans' [0, 1, 2, 3, 4, 5, 6, 7, 8, 9, 10, 11, 12, 13, 14, 15, 16] [11, 12, 13, 14, 16, 1014, 1016] 20 (by kernel_rfl) (by kernel_rfl) ?_)))
     intro w26 _ hE26
     replace hB := below_ext hB hE26 hsz
     replace hb1 := hb1.ext hE26
     replace hty_b1 := hty_b1.ext hE26
     replace hb2 := hb2.ext hE26
     replace hty_b2 := hty_b2.ext hE26
     replace hb21 := hb21.ext hE26
     replace hty_b21 := hty_b21.ext hE26
     replace hop := own_ext hop hE26
     replace hsz := Nat.le_trans hsz hE26.size
     refine m_q rfl rfl (fun w' hC' => q_fieldAddr (o' := 1) rfl fld52_1 rfl) (m_q rfl rfl (fun w' hC' => q_load Tryz.isAgg27 rfl (((hb21.has (o := 1) rfl).ext hC')) rfl) (m_q rfl rfl (fun w' hC' => q_fieldAddr (o' := 4) rfl fld26_3 rfl) (m_q rfl rfl (fun w' hC' => q_load Tryz.isAgg24 rfl (((hb1.has (o := 4) rfl).ext hC')) rfl) (m_q rfl rfl (fun w' hC' => qmi rfl rfl) ?_))))
     obtain ⟨b27, o27, ha27, hh27⟩ := (hns.below hB).at (by decide) k (by omega)
     refine m_q rfl rfl (fun w' hC' => q_indexAddr Tryz.underlying24 Tryz.sizeOf49 rfl ha27 rfl (by omega) rfl) (m_q rfl rfl (fun w' hC' => q_fieldAddr (o' := 3) rfl fld49_3 rfl) (m_q rfl rfl (fun w' hC' => q_load_agg (cs := [vint (((ns).getD k nt0).lo), vint (((ns).getD k nt0).hi)]) (n := 2) Tryz.isAgg23 Tryz.sizeOf23 rfl (((cells_sub (cells_cast (wide_at NT.len nt0 _ _ (by omega)) hh27) 3 2 rfl).ext hC')) rfl rfl) (m_q rfl rfl (fun w' hC' => qms rfl rfl) (m_q rfl rfl (fun w' hC' => qmi rfl rfl) (m_q rfl rfl (fun w' hC' => q_add rfl rfl (by omega) rfl) (m_o rfl rfl (o_call Tryz.call33 rfl (word8_ret wa wc ws ((k : Int) + 1) _ (hw.below hB) hwn hwr (by omega)) rfl ?_)))))))
     rintro _ w28 ⟨x28, rfl, hx28, hy28, hE28⟩
     refine ⟨hE28, ?_⟩
     replace hB := below_ext hB hE28 hsz
     replace hb1 := hb1.ext hE28
     replace hty_b1 := hty_b1.ext hE28
     replace hb2 := hb2.ext hE28
     replace hty_b2 := hty_b2.ext hE28
     replace hb21 := hb21.ext hE28
     replace hty_b21 := hty_b21.ext hE28
     replace hop := own_ext hop hE28
     replace hsz := Nat.le_trans hsz hE28.size
     refine m_o rfl rfl (o_call Tryz.call32 rfl (picked8_ret (((ns).getD k nt0).lo) (((ns).getD k nt0).hi) x28 _ (by omega) (by omega)) rfl ?_)
     rintro _ w29 ⟨y29, rfl, hp29, hq29, hE29⟩
     refine ⟨hE29, ?_⟩
     replace hB := below_ext hB hE29 hsz
     replace hb1 := hb1.ext hE29
     replace hty_b1 := hty_b1.ext hE29
     replace hb2 := hb2.ext hE29
     replace hty_b2 := hty_b2.ext hE29
     replace hb21 := hb21.ext hE29
     replace hty_b21 := hty_b21.ext hE29
     replace hop := own_ext hop hE29
     replace hsz := Nat.le_trans hsz hE29.size
     refine m_o rfl rfl (o_buildSlice (el := 3) (cs := [vint y29]) Tryz.underlying27 el3 (by decide) (by kernel_rfl) rfl (by decide) rfl ?_)
     intro b30 w30 hzl30 hzr30 _ hb30 hE30 ho30
     refine ⟨hE30, ?_⟩
     have hne_b1_b30 : b1 ≠ b30 := by have := hb1.lt; omega
     have hne_b2_b30 : b2 ≠ b30 := by have := hb2.lt; omega
     have hne_b21_b30 : b21 ≠ b30 := by have := hb21.lt; omega
     have hbs_b30 : w.heap.size ≤ b30 := Nat.le_trans hsz hzl30
     replace hB := below_ext hB hE30 hsz
     replace hb1 := hb1.ext hE30
     replace hty_b1 := hty_b1.ext hE30
     replace hb2 := hb2.ext hE30
     replace hty_b2 := hty_b2.ext hE30
     replace hb21 := hb21.ext hE30
     replace hty_b21 := hty_b21.ext hE30
     replace hop := own_ext hop hE30
     replace hsz := Nat.le_trans hsz hE30.size
     refine m_last rfl rfl rfl (o_append_map (f := vint) (X) ([y29]) Tryz.underlying27 el3 rfl rfl hop rfl (Row.of_owns ho30) (fun _ => rfl) (by (try simp only [List.length_append, List.length_cons, List.length_nil, List.length_take, List.length_drop, List.length_replicate]); omega) (by omega) rfl ?_)
     intro a31 c31 w31 hz31 ho31 hG31
     replace hB := below_own hB hG31 hop (by omega) hsz
     replace hsz := Nat.le_trans hsz hG31.size
     replace hb1 := hb1.step hG31 (own_ty_ne hop hty_b1 (by decide))
     replace hb2 := hb2.step hG31 (own_ty_ne hop hty_b2 (by decide))
     replace hb21 := hb21.step hG31 (own_ty_ne hop hty_b21 (by decide))
     replace hty_b1 := TyAt.own hty_b1 hop hG31 (by decide)
     replace hty_b2 := TyAt.own hty_b2 hop hG31 (by decide)
     replace hty_b21 := TyAt.own hty_b21 hop hG31 (by decide)
     refine m_q rfl rfl (fun w' hC' => q_fieldAddr (o' := 1) rfl fld52_1 rfl) (m_last rfl rfl rfl (o_storet (vs := [.slice a31 ((X ++ [y29]).length) c31]) (cs' := [vint y22, .slice a31 ((X ++ [y29]).length) c31]) Tryz.sizeOf27 rfl rfl rfl rfl hb21 (Nat.le_of_ble_eq_true rfl) rfl rfl ?_))
     intro w32 hz32 hb21 hT32 hG32
     replace hB := below_upd hB hG32 hsz (by omega)
     replace hsz : w.heap.size ≤ w32.heap.size := by rw [hz32]; exact hsz
     replace hb1 := hb1.upd hG32 (by omega)
     replace hty_b1 := hty_b1.upd hG32 (by omega)
     replace hb2 := hb2.upd hG32 (by omega)
     replace hty_b2 := hty_b2.upd hG32 (by omega)
     replace ho31 := own_ty_upd ho31 hty_b21 hG32 (by decide)
     replace hty_b21 := hT32 _ hty_b21
     refine m_nil (r_forget [(1, .slice _ _ _), (2, .pointer _), (4, .pointer _), (5, .pointer _), (6, .int _ _)] ⟨rfl, rfl, rfl, rfl, rfl, trivial⟩ (fun e33 => (r_inBlock (r_region' (l_q (qmi rfl rfl) (l_q (q_add rfl rfl (by omega) rfl) (l_q (qai rfl rfl) (l_nil ?_))))))))
     exact ih24 (k + 1, a31, c31, X ++ [y29]) _ _ ⟨⟨rfl, rfl, rfl, rfl, (vint_eq (by omega)), trivial⟩, (by omega), (by rw [List.length_append, hXl]; rfl), (burn_snoc hXl hXr ⟨by omega, by omega⟩), hb21, ho31, hb1, hty_b1, hb2, hty_b2, hty_b21, hsz, hB⟩ (by first | omega | (dsimp only; omega))
    ·
     replace hc25 := dlt hc25
     refine r_exit rfl (r_seq (r_region' (l_q (q_load_agg (n := 2) Tryz.isAgg52 Tryz.sizeOf52 rfl ((hb21.cells' (cs' := [_, _]) 0 2 rfl)) rfl rfl) (l_o (o_storet (vs := [vint y22, .slice oa ((X).length) oc]) (cs' := [vint y22, .slice oa ((X).length) oc]) Tryz.sizeOf52 rfl rfl rfl rfl hb2 (Nat.le_of_ble_eq_true rfl) rfl rfl ?_)))))
     intro w34 hz34 hb2 hT34 hG34
     replace hB := below_upd hB hG34 hsz (by omega)
     replace hsz : w.heap.size ≤ w34.heap.size := by rw [hz34]; exact hsz
     replace hb1 := hb1.upd hG34 (by omega)
     replace hty_b1 := hty_b1.upd hG34 (by omega)
     replace hop := own_ty_upd hop hty_b2 hG34 (by decide)
     replace hty_b2 := hT34 _ hty_b2
     refine l_nil (r_forget [(4, .pointer _)] ⟨rfl, trivial⟩ (fun e35 => (r_ret_ (vs := [.agg _]) rfl Tryz.func13 rfl (.nil _) ⟨⟨_, _, rfl, run_loadVarA Tryz.isAgg52 Tryz.sizeOf52 (hb2.cells' (cs' := [_, _]) 0 2 rfl) rfl⟩, trivial⟩ ?_)))
     have hke : k = ns.length := by omega
     subst hke
     exact ⟨_, oa, oc, X, rfl, Row.of_owns hop, ⟨by omega, by omega⟩, ⟨hXl, hXr⟩, Ext.of_below hB⟩
  ·
   refine m_o3 rfl rfl (o_call Tryz.call32 rfl (picked8_ret s0 s1 x20 _ (by omega) (by omega)) rfl ?_)
   rintro _ w36 ⟨y36, rfl, hp36, hq36, hE36⟩
   refine ⟨hE36, ?_⟩
   replace hB := below_ext hB hE36 hsz
   replace hb1 := hb1.ext hE36
   replace hty_b1 := hty_b1.ext hE36
   replace hb2 := hb2.ext hE36
   replace hty_b2 := hty_b2.ext hE36
   replace hsz := Nat.le_trans hsz hE36.size
   refine m_q3 rfl rfl (fun w' hC' => q_build (v := .agg ⟨[vint y36, .slice none 0 0]⟩) (fun w => by kernel_rfl) rfl) (m_o3 rfl rfl (o_alloct Tryz.zeroValue52 rfl rfl ?_))
   intro b37 w37 hzl37 hzr37 _ hb37 hty_b37 hE37
   refine ⟨hE37, ?_⟩
   have hne_b1_b37 : b1 ≠ b37 := by have := hb1.lt; omega
   have hne_b2_b37 : b2 ≠ b37 := by have := hb2.lt; omega
   have hbs_b37 : w.heap.size ≤ b37 := Nat.le_trans hsz hzl37
   replace hB := below_ext hB hE37 hsz
   replace hb1 := hb1.ext hE37
   replace hty_b1 := hty_b1.ext hE37
   replace hb2 := hb2.ext hE37
   replace hty_b2 := hty_b2.ext hE37
   replace hsz := Nat.le_trans hsz hE37.size
   refine m_last3 rfl rfl rfl (o_storet (vs := [vint y36, .slice none 0 0]) (cs' := [vint y36, .slice none 0 0]) Tryz.sizeOf52 rfl rfl rfl rfl hb37 (Nat.le_of_ble_eq_true rfl) rfl rfl ?_)
   intro w38 hz38 hb37 hT38 hG38
   replace hB := below_upd hB hG38 hsz (by omega)
   replace hsz : w.heap.size ≤ w38.heap.size := by rw [hz38]; exact hsz
   replace hb1 := hb1.upd hG38 (by omega)
   replace hty_b1 := hty_b1.upd hG38 (by omega)
   replace hb2 := hb2.upd hG38 (by omega)
   replace hty_b2 := hty_b2.upd hG38 (by omega)
   replace hty_b37 := hT38 _ hty_b37
   refine m_nil3 (r_seq (r_seq (r_region' (l_q (qai rfl rfl) (l_nil (r_block (r_rounds (α := Nat × (Option Addr) × Nat × (List Int)) (fun ⟨k, oa, oc, X⟩ e wl => Knows e [(1, .slice wa ws.length wc), (2, ptr b1 0), (4, ptr b2 0), (5, ptr b37 0), (6, vint (k : Int))] ∧ (k ≤ ns.length) ∧ (X.length = k) ∧ (∀ j, j < k → (ns.getD j nt0).lo ≤ X.getD j 0 ∧ X.getD j 0 ≤ (ns.getD j nt0).hi) ∧ (Blk wl b37 [vint y36, .slice oa ((X).length) oc]) ∧ (wl.ownsRow w.heap.size 3 1 (.slice oa ((X).length) oc) ((X).length) ((X).map vint)) ∧ (Blk wl b1 [vint cap, vint can, vint s0, vint s1, .slice sa ns.length sc]) ∧ (TyAt wl b1 26) ∧ (Blk wl b2 [vint 0, .slice none 0 0]) ∧ (TyAt wl b2 52) ∧ (TyAt wl b37 52) ∧ (w.heap.size ≤ wl.heap.size) ∧ (Below w.heap.size w wl)) (fun ⟨k, oa, oc, X⟩ => ns.length - k) (0, none, 0, []) ?_ ?_)))))))
   ·
    exact ⟨⟨rfl, rfl, rfl, rfl, rfl, trivial⟩, (Nat.zero_le _), rfl, (fun i hi => absurd hi (Nat.not_lt_zero _)), hb37, (World.ownsRow_nil _ _ _ _), hb1, hty_b1, hb2, hty_b2, hty_b37, hsz, hB⟩
   ·
    rintro ⟨k, oa, oc, X⟩ el39 wl39 ⟨hkn, hk, hXl, hXr, hb37, hop, hb1, hty_b1, hb2, hty_b2, hty_b37, hsz, hB⟩ ih39
    obtain ⟨e39, rfl⟩ := knows_env hkn
    refine r_seq (r_seq (r_region' (l_q (qmi rfl rfl) (l_q (q_fieldAddr (o' := 4) rfl fld26_3 rfl) (l_q (q_load Tryz.isAgg24 rfl ((hb1.has (o := 4) rfl)) rfl) (l_q (q_len rfl Tryz.underlying24 rfl rfl) (l_q (q_lss rfl rfl rfl) (l_nil (r_cond rfl (fun hc40 => ?_) (fun hc40 => ?_))))))))))
    ·
     replace hc40 := dt hc40
     have hkn : k < ns.length := by omega
     obtain ⟨hq1, hq2, hq3⟩ := hok.at hkn
     refine r_skip (r_seq (r_block (r_draw ext_refl' ext_trans' [0, 1, 2, 3, 4, 5, 6, 7, 8, 9, 10, 11, 12, 13, 14, 15, 16] [11, 12, 13, 14, 16, 1014, 1016] 20 (by kernel_rfl) (by kernel_rfl) ?_)))
     intro w41 _ hE41
     replace hB := below_ext hB hE41 hsz
     replace hb1 := hb1.ext hE41
     replace hty_b1 := hty_b1.ext hE41
     replace hb2 := hb2.ext hE41
     replace hty_b2 := hty_b2.ext hE41
     replace hb37 := hb37.ext hE41
     replace hty_b37 := hty_b37.ext hE41
     replace hop := own_ext hop hE41
     replace hsz := Nat.le_trans hsz hE41.size
     refine m_q rfl rfl (fun w' hC' => q_fieldAddr (o' := 1) rfl fld52_1 rfl) (m_q rfl rfl (fun w' hC' => q_load Tryz.isAgg27 rfl (((hb37.has (o := 1) rfl).ext hC')) rfl) (m_q rfl rfl (fun w' hC' => q_fieldAddr (o' := 4) rfl fld26_3 rfl) (m_q rfl rfl (fun w' hC' => q_load Tryz.isAgg24 rfl (((hb1.has (o := 4) rfl).ext hC')) rfl) (m_q rfl rfl (fun w' hC' => qmi rfl rfl) ?_))))
     obtain ⟨b42, o42, ha42, hh42⟩ := (hns.below hB).at (by decide) k (by omega)
     refine m_q rfl rfl (fun w' hC' => q_indexAddr Tryz.underlying24 Tryz.sizeOf49 rfl ha42 rfl (by omega) rfl) (m_q rfl rfl (fun w' hC' => q_fieldAddr (o' := 3) rfl fld49_3 rfl) (m_q rfl rfl (fun w' hC' => q_load_agg (cs := [vint (((ns).getD k nt0).lo), vint (((ns).getD k nt0).hi)]) (n := 2) Tryz.isAgg23 Tryz.sizeOf23 rfl (((cells_sub (cells_cast (wide_at NT.len nt0 _ _ (by omega)) hh42) 3 2 rfl).ext hC')) rfl rfl) (m_q rfl rfl (fun w' hC' => qms rfl rfl) (m_q rfl rfl (fun w' hC' => qmi rfl rfl) (m_q rfl rfl (fun w' hC' => q_add rfl rfl (by omega) rfl) (m_o rfl rfl (o_call Tryz.call33 rfl (word8_ret wa wc ws ((k : Int) + 1) _ (hw.below hB) hwn hwr (by omega)) rfl ?_)))))))
     rintro _ w43 ⟨x43, rfl, hx43, hy43, hE43⟩
     refine ⟨hE43, ?_⟩
     replace hB := below_ext hB hE43 hsz
     replace hb1 := hb1.ext hE43
     replace hty_b1 := hty_b1.ext hE43
     replace hb2 := hb2.ext hE43
     replace hty_b2 := hty_b2.ext hE43
     replace hb37 := hb37.ext hE43
     replace hty_b37 := hty_b37.ext hE43
     replace hop := own_ext hop hE43
     replace hsz := Nat.le_trans hsz hE43.size
     refine m_o rfl rfl (o_call Tryz.call32 rfl (picked8_ret (((ns).getD k nt0).lo) (((ns).getD k nt0).hi) x43 _ (by omega) (by omega)) rfl ?_)
     rintro _ w44 ⟨y44, rfl, hp44, hq44, hE44⟩
     refine ⟨hE44, ?_⟩
     replace hB := below_ext hB hE44 hsz
     replace hb1 := hb1.ext hE44
     replace hty_b1 := hty_b1.ext hE44
     replace hb2 := hb2.ext hE44
     replace hty_b2 := hty_b2.ext hE44
     replace hb37 := hb37.ext hE44
     replace hty_b37 := hty_b37.ext hE44
     replace hop := own_ext hop hE44
     replace hsz := Nat.le_trans hsz hE44.size
     refine m_o rfl rfl (o_buildSlice (el := 3) (cs := [vint y44]) Tryz.underlying27 el3 (by decide) (by kernel_rfl) rfl (by decide) rfl ?_)
     intro b45 w45 hzl45 hzr45 _ hb45 hE45 ho45
     refine ⟨hE45, ?_⟩
     have hne_b1_b45 : b1 ≠ b45 := by have := hb1.lt; omega
     have hne_b2_b45 : b2 ≠ b45 := by have := hb2.lt; omega
     have hne_b37_b45 : b37 ≠ b45 := by have := hb37.lt; omega
     have hbs_b45 : w.heap.size ≤ b45 := Nat.le_trans hsz hzl45
     replace hB := below_ext hB hE45 hsz
     replace hb1 := hb1.ext hE45
     replace hty_b1 := hty_b1.ext hE45
     replace hb2 := hb2.ext hE45
     replace hty_b2 := hty_b2.ext hE45
     replace hb37 := hb37.ext hE45
     replace hty_b37 := hty_b37.ext hE45
     replace hop := own_ext hop hE45
     replace hsz := Nat.le_trans hsz hE45.size
     refine m_last rfl rfl rfl (o_append_map (f := vint) (X) ([y44]) Tryz.underlying27 el3 rfl rfl hop rfl (Row.of_owns ho45) (fun _ => rfl) (by (try simp only [List.length_append, List.length_cons, List.length_nil, List.length_take, List.length_drop, List.length_replicate]); omega) (by omega) rfl ?_)
     intro a46 c46 w46 hz46 ho46 hG46
     replace hB := below_own hB hG46 hop (by omega) hsz
     replace hsz := Nat.le_trans hsz hG46.size
     replace hb1 := hb1.step hG46 (own_ty_ne hop hty_b1 (by decide))
     replace hb2 := hb2.step hG46 (own_ty_ne hop hty_b2 (by decide))
     replace hb37 := hb37.step hG46 (own_ty_ne hop hty_b37 (by decide))
     replace hty_b1 := TyAt.own hty_b1 hop hG46 (by decide)
     replace hty_b2 := TyAt.own hty_b2 hop hG46 (by decide)
     replace hty_b37 := TyAt.own hty_b37 hop hG46 (by decide)
     refine m_q rfl rfl (fun w' hC' => q_fieldAddr (o' := 1) rfl fld52_1 rfl) (m_last rfl rfl rfl (o_storet (vs := [.slice a46 ((X ++ [y44]).length) c46]) (cs' := [vint y36, .slice a46 ((X ++ [y44]).length) c46]) Tryz.sizeOf27 rfl rfl rfl rfl hb37 (Nat.le_of_ble_eq_true rfl) rfl rfl ?_))
     intro w47 hz47 hb37 hT47 hG47
     replace hB := below_upd hB hG47 hsz (by omega)
     replace hsz : w.heap.size ≤ w47.heap.size := by rw [hz47]; exact hsz
     replace hb1 := hb1.upd hG47 (by omega)
     replace hty_b1 := hty_b1.upd hG47 (by omega)
     replace hb2 := hb2.upd hG47 (by omega)
     replace hty_b2 := hty_b2.upd hG47 (by omega)
     replace ho46 := own_ty_upd ho46 hty_b37 hG47 (by decide)
     replace hty_b37 := hT47 _ hty_b37
     refine m_nil (r_forget [(1, .slice _ _ _), (2, .pointer _), (4, .pointer _), (5, .pointer _), (6, .int _ _)] ⟨rfl, rfl, rfl, rfl, rfl, trivial⟩ (fun e48 => (r_inBlock (r_region' (l_q (qmi rfl rfl) (l_q (q_add rfl rfl (by omega) rfl) (l_q (qai rfl rfl) (l_nil ?_))))))))
     exact ih39 (k + 1, a46, c46, X ++ [y44]) _ _ ⟨⟨rfl, rfl, rfl, rfl, (vint_eq (by omega)), trivial⟩, (by omega), (by rw [List.length_append, hXl]; rfl), (burn_snoc hXl hXr ⟨by omega, by omega⟩), hb37, ho46, hb1, hty_b1, hb2, hty_b2, hty_b37, hsz, hB⟩ (by first | omega | (dsimp only; omega))
    ·
     replace hc40 := dlt hc40
     refine r_exit rfl (r_seq (r_region' (l_q (q_load_agg (n := 2) Tryz.isAgg52 Tryz.sizeOf52 rfl ((hb37.cells' (cs' := [_, _]) 0 2 rfl)) rfl rfl) (l_o (o_storet (vs := [vint y36, .slice oa ((X).length) oc]) (cs' := [vint y36, .slice oa ((X).length) oc]) Tryz.sizeOf52 rfl rfl rfl rfl hb2 (Nat.le_of_ble_eq_true rfl) rfl rfl ?_)))))
     intro w49 hz49 hb2 hT49 hG49
     replace hB := below_upd hB hG49 hsz (by omega)
     replace hsz : w.heap.size ≤ w49.heap.size := by rw [hz49]; exact hsz
     replace hop := own_ty_upd hop hty_b2 hG49 (by decide)
     refine l_nil (r_forget [(4, .pointer _)] ⟨rfl, trivial⟩ (fun e50 => (r_ret_ (vs := [.agg _]) rfl Tryz.func13 rfl (.nil _) ⟨⟨_, _, rfl, run_loadVarA Tryz.isAgg52 Tryz.sizeOf52 (hb2.cells' (cs' := [_, _]) 0 2 rfl) rfl⟩, trivial⟩ ?_)))
     have hke : k = ns.length := by omega
     subst hke
     exact ⟨_, oa, oc, X, rfl, Row.of_owns hop, ⟨by omega, by omega⟩, ⟨hXl, hXr⟩, Ext.of_below hB⟩
end Go.Proofs.YtbikicakdkbcgabGreat
