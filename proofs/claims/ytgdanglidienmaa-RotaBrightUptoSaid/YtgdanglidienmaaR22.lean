/- Contracts. -/
import Derived.Test.YtgdanglidienmaaR20
import Derived.Test.YtgdanglidienmaaR19
set_option linter.unusedVariables false
set_option linter.unusedSimpArgs false
namespace Go.Proofs.Ytgdanglidienmaa
open Go Go.RowKit Go.Gv Go.Fl

theorem rg_snoc {G : List RG} {k : Nat} (hk : k < G.length) : G.take k ++ [G.getD k rg0] = G.take (k + 1) := by
  rw [List.take_add_one, List.getElem?_eq_getElem hk, List.getD_eq_getElem?_getD, List.getElem?_eq_getElem hk]; rfl


theorem mirror10_ret (fl : Int) (ga : Option Addr) (gc : Nat) (G : List RG) (w : World) (hG : Row w ga G.length gc 2 (G.flatMap RG.enc)) (hGn : G.length ≤ 2097152) : Ret Try.prog 13 [.agg ⟨[vint fl, .slice ga G.length gc]⟩] w (fun v w' => ∃ ga2 gc2, v = .agg ⟨[vint fl, .slice ga2 G.length gc2]⟩ ∧ Row w' ga2 G.length gc2 2 (G.flatMap RG.enc) ∧ Ext w w') := by
 have hB := Below.refl w.heap.size w
 have hsz : w.heap.size ≤ w.heap.size := Nat.le_refl _
 refine ret_of_runs (args := [_]) Try.func13 rfl (Nat.le_of_ble_eq_true rfl) (by kernel_rfl) ?_
 refine r_seq (r_region' ?_)
 refine l_o (o_boxt rfl rfl rfl ?_)
 intro b1 w1 hzl1 hzr1 _ hb1 hty_b1 hE1
 have hbs_b1 : w.heap.size ≤ b1 := Nat.le_trans hsz hzl1
 replace hB := below_ext hB hE1 hsz
 replace hsz := Nat.le_trans hsz hE1.size
 refine l_o (o_alloct Try.zeroValue48 rfl rfl ?_)
 intro b2 w2 hzl2 hzr2 _ hb2 hty_b2 hE2
 have hne_b1_b2 : b1 ≠ b2 := by have := hb1.lt; omega
 have hbs_b2 : w.heap.size ≤ b2 := Nat.le_trans hsz hzl2
 replace hB := below_ext hB hE2 hsz
 replace hb1 := hb1.ext hE2
 replace hty_b1 := hty_b1.ext hE2
 replace hsz := Nat.le_trans hsz hE2.size
 refine l_nil (r_seq (r_region' ?_))
 refine l_q (q_fieldAddr (o' := 0) rfl fld38_0 rfl) ?_
 refine l_q (q_load Try.isAgg3 rfl ((hb1.has (o := 0) rfl)) rfl) ?_
 refine l_q (q_build (v := .agg ⟨[vint fl, .slice none 0 0]⟩) (fun w => by kernel_rfl) rfl) ?_
 refine l_o (o_alloct Try.zeroValue48 rfl rfl ?_)
 intro b3 w3 hzl3 hzr3 _ hb3 hty_b3 hE3
 have hne_b1_b3 : b1 ≠ b3 := by have := hb1.lt; omega
 have hne_b2_b3 : b2 ≠ b3 := by have := hb2.lt; omega
 have hbs_b3 : w.heap.size ≤ b3 := Nat.le_trans hsz hzl3
 replace hB := below_ext hB hE3 hsz
 replace hb1 := hb1.ext hE3
 replace hty_b1 := hty_b1.ext hE3
 replace hb2 := hb2.ext hE3
 replace hty_b2 := hty_b2.ext hE3
 replace hsz := Nat.le_trans hsz hE3.size
 refine l_o (o_storet (vs := [vint fl, .slice none 0 0]) (cs' := [vint fl, .slice none 0 0]) Try.sizeOf48 rfl rfl rfl rfl hb3 (Nat.le_of_ble_eq_true rfl) rfl rfl ?_)
 intro w4 hz4 hb3 hT4 hG4
 replace hB := below_upd hB hG4 hsz (by omega)
 replace hsz : w.heap.size ≤ w4.heap.size := by rw [hz4]; exact hsz
 replace hb1 := hb1.upd hG4 (by omega)
 replace hty_b1 := hty_b1.upd hG4 (by omega)
 replace hb2 := hb2.upd hG4 (by omega)
 replace hty_b2 := hty_b2.upd hG4 (by omega)
 replace hty_b3 := hT4 _ hty_b3
 refine l_nil (r_seq (r_seq (r_region' ?_)))
 refine l_q (q_assign (v := .int _ _) rfl rfl) ?_
 refine l_nil (r_block ?_)
 refine r_rounds (α := Nat × (Option Addr) × Nat × (List RG)) (fun ⟨k, oa, oc, M⟩ e wl => Knows e [(1, ptr b1 0), (2, ptr b2 0), (3, ptr b3 0), (4, vint (k : Int))] ∧ (k ≤ G.length) ∧ (M = G.take k) ∧ (M.length = k) ∧ (Blk wl b3 [vint fl, .slice oa M.length oc]) ∧ (wl.ownsRow w.heap.size 55 2 (.slice oa M.length oc) M.length (M.flatMap RG.enc)) ∧ (Blk wl b1 [vint fl, .slice ga G.length gc]) ∧ (TyAt wl b1 38) ∧ (Blk wl b2 [vint 0, .slice none 0 0]) ∧ (TyAt wl b2 48) ∧ (TyAt wl b3 48) ∧ (w.heap.size ≤ wl.heap.size) ∧ (Below w.heap.size w wl)) (fun ⟨k, oa, oc, M⟩ => G.length - k) (0, none, 0, []) ?_ ?_
 ·
  exact ⟨⟨rfl, rfl, rfl, rfl, trivial⟩, (Nat.zero_le _), rfl, rfl, hb3, (World.ownsRow_nil _ _ _ _), hb1, hty_b1, hb2, hty_b2, hty_b3, hsz, hB⟩
 ·
  rintro ⟨k, oa, oc, M⟩ el5 wl5 ⟨hkn, hk, hM, hMl, hb3, hop, hb1, hty_b1, hb2, hty_b2, hty_b3, hsz, hB⟩ ih5
  obtain ⟨e5, rfl⟩ := knows_env hkn
  refine r_seq (r_seq (r_region' ?_))
  refine l_q (q_move (v := .int _ _) rfl rfl) ?_
  refine l_q (q_fieldAddr (o' := 1) rfl fld38_1 rfl) ?_
  refine l_q (q_load Try.isAgg36 rfl ((hb1.has (o := 1) rfl)) rfl) ?_
  refine l_q (q_len rfl Try.underlying36 rfl rfl) ?_
  refine l_q (q_lss rfl rfl rfl) ?_
  refine l_nil ?_
  refine r_cond rfl (fun hc6 => ?_) (fun hc6 => ?_)
  ·
   replace hc6 := dt hc6
   have hkG : k < G.length := by omega
   refine r_skip (r_seq (r_block ?_))
   refine r_draw ext_refl' ext_trans' [0, 1, 2, 3, 4, 5, 6, 7, 8, 9, 10, 11, 12, 13, 14, 15, 16, 17, 18] [15, 16, 18, 1016, 1018] 30 (by kernel_rfl) (by kernel_rfl) ?_
   intro w7 _ hE7
   replace hB := below_ext hB hE7 hsz
   replace hb1 := hb1.ext hE7
   replace hty_b1 := hty_b1.ext hE7
   replace hb2 := hb2.ext hE7
   replace hty_b2 := hty_b2.ext hE7
   replace hb3 := hb3.ext hE7
   replace hty_b3 := hty_b3.ext hE7
   replace hop := own_ext hop hE7
   replace hsz := Nat.le_trans hsz hE7.size
   refine m_q rfl rfl (fun w' hC' => q_fieldAddr (o' := 1) rfl fld48_1 rfl) ?_
   refine m_q rfl rfl (fun w' hC' => q_load Try.isAgg43 rfl (((hb3.has (o := 1) rfl).ext hC')) rfl) ?_
   refine m_q rfl rfl (fun w' hC' => q_fieldAddr (o' := 1) rfl fld38_1 rfl) ?_
   refine m_q rfl rfl (fun w' hC' => q_load Try.isAgg36 rfl (((hb1.has (o := 1) rfl).ext hC')) rfl) ?_
   refine m_q rfl rfl (fun w' hC' => q_move (v := .int _ _) rfl rfl) ?_
   obtain ⟨b8, o8, ha8, hh8⟩ := (hG.below hB).at (by decide) k (by omega)
   refine m_q rfl rfl (fun w' hC' => q_indexAddr Try.underlying36 Try.sizeOf78 rfl ha8 rfl (by omega) rfl) ?_
   refine m_q rfl rfl (fun w' hC' => q_fieldAddr (o' := 0) rfl fld78_0 rfl) ?_
   refine m_q rfl rfl (fun w' hC' => q_load Try.isAgg3 rfl ((((cells_cast (wide_at RG.len rg0 _ _ (by omega)) hh8) 0 _ rfl).ext hC')) rfl) ?_
   refine m_q rfl rfl (fun w' hC' => q_fieldAddr (o' := 1) rfl fld38_1 rfl) ?_
   refine m_q rfl rfl (fun w' hC' => q_load Try.isAgg36 rfl (((hb1.has (o := 1) rfl).ext hC')) rfl) ?_
   refine m_q rfl rfl (fun w' hC' => q_move (v := .int _ _) rfl rfl) ?_
   obtain ⟨b9, o9, ha9, hh9⟩ := (hG.below hB).at (by decide) k (by omega)
   refine m_q rfl rfl (fun w' hC' => q_indexAddr Try.underlying36 Try.sizeOf78 rfl ha9 rfl (by omega) rfl) ?_
   refine m_q rfl rfl (fun w' hC' => q_fieldAddr (o' := 1) rfl fld78_1 rfl) ?_
   refine m_q rfl rfl (fun w' hC' => q_load Try.isAgg3 rfl ((((cells_cast (wide_at RG.len rg0 _ _ (by omega)) hh9) 1 _ rfl).ext hC')) rfl) ?_
   refine m_q rfl rfl (fun w' hC' => q_build (v := .agg ⟨[vint (((G).getD k rg0).lo), vint (((G).getD k rg0).hi)]⟩) (fun w => by kernel_rfl) rfl) ?_
   refine m_o rfl rfl (o_buildSlice (el := 55) (cs := [vint (((G).getD k rg0).lo), vint (((G).getD k rg0).hi)]) Try.underlying43 el55 (by decide) (by kernel_rfl) rfl (by decide) rfl ?_)
   intro b10 w10 hzl10 hzr10 _ hb10 hE10 ho10
   refine ⟨hE10, ?_⟩
   have hne_b1_b10 : b1 ≠ b10 := by have := hb1.lt; omega
   have hne_b2_b10 : b2 ≠ b10 := by have := hb2.lt; omega
   have hne_b3_b10 : b3 ≠ b10 := by have := hb3.lt; omega
   have hbs_b10 : w.heap.size ≤ b10 := Nat.le_trans hsz hzl10
   replace hB := below_ext hB hE10 hsz
   replace hb1 := hb1.ext hE10
   replace hty_b1 := hty_b1.ext hE10
   replace hb2 := hb2.ext hE10
   replace hty_b2 := hty_b2.ext hE10
   replace hb3 := hb3.ext hE10
   replace hty_b3 := hty_b3.ext hE10
   replace hop := own_ext hop hE10
   replace hsz := Nat.le_trans hsz hE10.size
   refine m_last rfl rfl rfl (o_append_wide RG.one (M) (([⟨((G).getD k rg0).lo, ((G).getD k rg0).hi⟩] : List RG)) Try.underlying43 el55 rfl rfl hop rfl (Row.of_owns ho10) (by (try simp only [List.length_append, List.length_cons, List.length_nil, List.length_take, List.length_drop, List.length_replicate]); omega) (by omega) rfl ?_)
   intro a12 c12 w12 hz12 ho12 hG12
   replace hB := below_own hB hG12 hop (by omega) hsz
   replace hsz := Nat.le_trans hsz hG12.size
   replace hb1 := hb1.step hG12 (own_ty_ne hop hty_b1 (by decide))
   replace hb2 := hb2.step hG12 (own_ty_ne hop hty_b2 (by decide))
   replace hb3 := hb3.step hG12 (own_ty_ne hop hty_b3 (by decide))
   replace hty_b1 := TyAt.own hty_b1 hop hG12 (by decide)
   replace hty_b2 := TyAt.own hty_b2 hop hG12 (by decide)
   replace hty_b3 := TyAt.own hty_b3 hop hG12 (by decide)
   refine m_q rfl rfl (fun w' hC' => q_fieldAddr (o' := 1) rfl fld48_1 rfl) ?_
   refine m_last rfl rfl rfl (o_storet (vs := [.slice a12 ((M ++ ([⟨((G).getD k rg0).lo, ((G).getD k rg0).hi⟩] : List RG)).length) c12]) (cs' := [vint fl, .slice a12 ((M ++ ([⟨((G).getD k rg0).lo, ((G).getD k rg0).hi⟩] : List RG)).length) c12]) Try.sizeOf43 rfl rfl rfl rfl hb3 (Nat.le_of_ble_eq_true rfl) rfl rfl ?_)
   intro w13 hz13 hb3 hT13 hG13
   replace hB := below_upd hB hG13 hsz (by omega)
   replace hsz : w.heap.size ≤ w13.heap.size := by rw [hz13]; exact hsz
   replace hb1 := hb1.upd hG13 (by omega)
   replace hty_b1 := hty_b1.upd hG13 (by omega)
   replace hb2 := hb2.upd hG13 (by omega)
   replace hty_b2 := hty_b2.upd hG13 (by omega)
   replace ho12 := own_ty_upd ho12 hty_b3 hG13 (by decide)
   replace hty_b3 := hT13 _ hty_b3
   refine m_nil ?_
   refine r_forget [(1, .pointer _), (2, .pointer _), (3, .pointer _), (4, .int _ _)] ⟨rfl, rfl, rfl, rfl, trivial⟩ (fun e14 => ?_)
   refine r_inBlock (r_region' ?_)
   refine l_q (q_move (v := .int _ _) rfl rfl) ?_
   refine l_q (q_add rfl rfl (by omega) rfl) ?_
   refine l_q (q_assign (v := .int _ _) rfl rfl) ?_
   refine l_nil ?_
   exact ih5 (k + 1, a12, c12, M ++ ([⟨((G).getD k rg0).lo, ((G).getD k rg0).hi⟩] : List RG)) _ _ ⟨⟨rfl, rfl, rfl, (vint_eq (by omega)), trivial⟩, (by omega), (by rw [hM]; exact rg_snoc hkG), (by rw [List.length_append, hMl]; rfl), hb3, ho12, hb1, hty_b1, hb2, hty_b2, hty_b3, hsz, hB⟩ (by first | omega | (dsimp only; omega))
  ·
   replace hc6 := dlt hc6
   refine r_exit rfl ?_
   refine r_seq (r_region' ?_)
   refine l_q (q_load_agg (n := 2) Try.isAgg48 Try.sizeOf48 rfl ((hb3.cells' (cs' := [_, _]) 0 2 rfl)) rfl rfl) ?_
   refine l_o (o_storet (vs := [vint fl, .slice oa M.length oc]) (cs' := [vint fl, .slice oa M.length oc]) Try.sizeOf48 rfl rfl rfl rfl hb2 (Nat.le_of_ble_eq_true rfl) rfl rfl ?_)
   intro w15 hz15 hb2 hT15 hG15
   replace hB := below_upd hB hG15 hsz (by omega)
   replace hsz : w.heap.size ≤ w15.heap.size := by rw [hz15]; exact hsz
   replace hop := own_ty_upd hop hty_b2 hG15 (by decide)
   refine l_nil ?_
   refine r_ret_ (vs := [.agg _]) rfl Try.func13 rfl (.nil _) ⟨⟨_, _, rfl, run_loadVarA Try.isAgg48 Try.sizeOf48 (hb2.cells' (cs' := [_, _]) 0 2 rfl) rfl⟩, trivial⟩ ?_
   have hMe : M = G := by rw [hM, List.take_of_length_le (by omega)]
   subst hMe
   exact ⟨oa, oc, rfl, Row.of_owns hop, Ext.of_below hB⟩
end Go.Proofs.Ytgdanglidienmaa
