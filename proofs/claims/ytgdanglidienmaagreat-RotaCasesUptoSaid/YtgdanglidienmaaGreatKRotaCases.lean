/- Contracts. -/
import Derived.Test.YtgdanglidienmaaGreatR24
import Derived.Test.YtgdanglidienmaaGreatR23
set_option linter.unusedVariables false
set_option linter.unusedSimpArgs false
namespace Go.Proofs.YtgdanglidienmaaGreat
open Go Go.RowKit Go.Gv Go.Fl

theorem sub_rng {x m : Int} (h0 : 0 ≤ x) (hm : 0 < m) (hm2 : m ≤ 4194304) : -9223372036854775808 ≤ x % m - 1 ∧ x % m - 1 ≤ 9223372036854775807 := by
  have h1 := Int.emod_nonneg x (Int.ne_of_gt hm)
  have h2 := Int.emod_lt_of_pos x hm
  omega
theorem big_app {nd : List Int} {pl : List PV} {L M : List SV} {s : SV} (h : PoBig nd pl L) (hm : M.map (·.xs) = L.map (·.xs)) (hl : L.length ≤ 4) (hs : s.xs.length ≤ 2097152) : PoBig nd pl (M ++ [s]) := by
  obtain ⟨h1, h2, h3, h4, h5⟩ := h
  obtain ⟨h6, h7⟩ := rows_same hm h3 h4
  have h8 := congrArg List.length hm
  rw [List.length_map, List.length_map] at h8
  refine ⟨h1, h2, by rw [List.length_append, List.length_cons, List.length_nil]; omega, fun t ht => ?_, h5⟩
  rcases List.mem_append.1 ht with h9 | h9
  · exact h7 t h9
  · obtain rfl : t = s := by simpa using h9
    exact hs
theorem big_set {nd : List Int} {pl : List PV} {L : List SV} {k : Nat} {v : Int} (h : PoBig nd pl L) : PoBig (nd.set k v) pl L := ⟨by rw [List.length_set]; exact h.1, h.2⟩
theorem hard_app {nd : List Int} {pl : List PV} {L M : List SV} {s : SV} (hm : M.map (·.xs) = L.map (·.xs)) : ∀ R, IsR nd pl.length R → chn nd pl ((M ++ [s]).map (·.xs)) 0 stood0 R = true → IsR nd pl.length R ∧ chn nd pl (L.map (·.xs)) 0 stood0 R = true := fun R hR h =>
  ⟨hR, chn_mono (fun _ => Int.le_refl _) (fun l hl => by rw [List.map_append, hm]; exact List.mem_append_left _ hl) h⟩
theorem hard_set {nd : List Int} {pl : List PV} {L : List SV} {k : Nat} (hok : faultP (po nd pl L) = 0) (hk : k < nd.length) : ∀ R, IsR (nd.set k (min 2 (nd.getD k 0 + 1))) pl.length R → chn (nd.set k (min 2 (nd.getD k 0 + 1))) pl (L.map (·.xs)) 0 stood0 R = true → IsR nd pl.length R ∧ chn nd pl (L.map (·.xs)) 0 stood0 R = true := fun R hR h =>
  ⟨⟨by rw [hR.1, List.length_set], hR.2⟩, chn_mono (need_le hok hk) (fun l hl => hl) h⟩
theorem ok_set {nd : List Int} {pl : List PV} {L : List SV} {k : Nat} (hok : faultP (po nd pl L) = 0) (hk : k < nd.length) : faultP (po (nd.set k (min 2 (nd.getD k 0 + 1))) pl L) = 0 := by
  have h1 := (po_ok hok).2.2.2.1 (nd.getD k 0) (getD_lt hk)
  refine fault_set hok ?_
  unfold okNeed
  rw [Bool.and_eq_true, decide_eq_true_eq, decide_eq_true_eq]
  omega


theorem rotaCases_ret (na : Option Addr) (nc : Nat) (nd : List Int) (pa : Option Addr) (pc : Nat) (pl : List PV) (ca : Option Addr) (cc : Nat) (L : List SV) (wa : Option Addr) (wc : Nat) (ws : List Int) (wh : Int) (w : World) (hpo : PoAt w na nc nd pa pc pl ca cc L) (hbg : PoBig nd pl L) (hwd : Row w wa ws.length wc 1 (ws.map (Value.int .u16))) (hwn : ws.length ≤ 2097152) (hwr : ∀ x ∈ ws, 0 ≤ x ∧ x ≤ 65535) (hwh : 0 ≤ wh ∧ wh ≤ 255) : Ret Tryz.prog 7 [.agg ⟨[.slice na nd.length nc, .slice pa pl.length pc, .slice ca L.length cc]⟩, .slice wa ws.length wc, .int .u8 wh] w (fun v w' => v = .bool true ∧ Ext w w') := by
 obtain ⟨hnl, hpll, hLl, hLs, hPb⟩ := id hbg
 have hB := Below.refl w.heap.size w
 have hsz : w.heap.size ≤ w.heap.size := Nat.le_refl _
 refine ret_of_runs (args := [_, _, _]) Tryz.func7 rfl (Nat.le_of_ble_eq_true rfl) (by kernel_rfl) ?_
 refine r_seq (r_region' ?_)
 refine l_o (o_boxt rfl rfl rfl ?_)
 intro b1 w1 hzl1 hzr1 _ hb1 hty_b1 hE1
 have hbs_b1 : w.heap.size ≤ b1 := Nat.le_trans hsz hzl1
 replace hB := below_ext hB hE1 hsz
 replace hsz := Nat.le_trans hsz hE1.size
 refine l_q (q_assign (v := .bool _) rfl rfl) ?_
 refine l_nil (r_seq (r_seq (r_region' ?_)))
 refine l_q (q_load_agg (n := 3) Tryz.isAgg26 Tryz.sizeOf26 rfl ((hb1.cells' (cs' := [_, _, _]) 0 3 rfl)) rfl rfl) ?_
 refine l_o (o_call Tryz.call40 rfl (ready10_ret na nc nd pa pc pl ca cc L _ (hpo.below hB) hbg) rfl ?_)
 rintro _ w2 ⟨bb2, rfl, hrdy2, hE2⟩
 replace hB := below_ext hB hE2 hsz
 replace hb1 := hb1.ext hE2
 replace hty_b1 := hty_b1.ext hE2
 replace hsz := Nat.le_trans hsz hE2.size
 have hrdy := hrdy2
 refine l_q (q_not rfl rfl) ?_
 refine l_nil ?_
 refine r_cond rfl (fun hc3 => ?_) (fun hc3 => ?_)
 ·
  replace hc3 := nt hc3
  refine r_seq (r_region' ?_)
  refine l_o (o_call Tryz.call17 rfl (awake_ret _) rfl ?_)
  rintro _ w4 ⟨rfl, hE4⟩
  replace hB := below_ext hB hE4 hsz
  replace hb1 := hb1.ext hE4
  replace hty_b1 := hty_b1.ext hE4
  replace hsz := Nat.le_trans hsz hE4.size
  refine l_q (q_assign (v := .bool _) rfl rfl) ?_
  refine l_nil ?_
  refine r_ret_ (vs := [.bool _]) rfl Tryz.func7 rfl (.nil _) ⟨rfl, trivial⟩ ?_
  exact ⟨rfl, Ext.of_below hB⟩
 ·
  replace hc3 := nf hc3
  have hok := hrdy hc3
  obtain ⟨⟨hn1, hn5⟩, ⟨hp1, hp4⟩, hL4, hnn, hpp, hLL⟩ := po_ok hok
  refine r_skip (r_seq ?_)
  have hszR : w.heap.size ≤ w2.heap.size := hsz
  have hszW : w2.heap.size ≤ w2.heap.size := Nat.le_refl _
  have hltR_b1 := hb1.lt
  refine r_draw3 (Below.refl w2.heap.size) (fun _ _ _ h1 h2 => h1.trans h2) (.op 0 (.op 1 (.fork 2 (.op 3 (.op 4 (.op 5 (.done)))) (.op 3 (.op 2 (.op 4 (.op 5 (.done)))))))) [2, 3, 4, 5] 20 (by kernel_rfl) (by kernel_rfl) ?_
  intro w5 _ hE5
  replace hB := below_ext hB hE5 hsz
  replace hb1 := hb1.ext hE5
  replace hty_b1 := hty_b1.ext hE5
  replace hszW := Nat.le_trans hszW hE5.size
  replace hsz := Nat.le_trans hsz hE5.size
  refine m_q3 rfl rfl (fun w' hC' => q_load_agg (n := 3) Tryz.isAgg26 Tryz.sizeOf26 rfl (((hb1.keep (hC'.block _ hltR_b1)).cells' (cs' := [_, _, _]) 0 3 rfl)) rfl rfl) ?_
  refine m_q3 rfl rfl (fun w' hC' => q_load_agg (n := 3) Tryz.isAgg26 Tryz.sizeOf26 rfl (((hb1.keep (hC'.block _ hltR_b1)).cells' (cs' := [_, _, _]) 0 3 rfl)) rfl rfl) ?_
  refine m_fork3 ?_ ?_
  ·
   refine m_o3 rfl rfl (o_alloct Tryz.zeroValue26 rfl rfl ?_)
   intro b6 w6 hzl6 hzr6 _ hb6 hty_b6 hE6
   refine ⟨(below_ext_of hE6 hszW), ?_⟩
   have hne_b1_b6 : b1 ≠ b6 := by have := hb1.lt; omega
   have hbs_b6 : w.heap.size ≤ b6 := Nat.le_trans hsz hzl6
   have hWp_b6 := hszW
   have hbW_b6 := Nat.le_trans hszW hzl6
   replace hB := below_ext hB hE6 hsz
   replace hb1 := hb1.ext hE6
   replace hty_b1 := hty_b1.ext hE6
   replace hszW := Nat.le_trans hszW hE6.size
   replace hsz := Nat.le_trans hsz hE6.size
   refine m_o3 rfl rfl (o_alloct Tryz.zeroValue26 rfl rfl ?_)
   intro b7 w7 hzl7 hzr7 _ hb7 hty_b7 hE7
   refine ⟨(below_ext_of hE7 hszW), ?_⟩
   have hne_b1_b7 : b1 ≠ b7 := by have := hb1.lt; omega
   have hne_b6_b7 : b6 ≠ b7 := by have := hb6.lt; omega
   have hbs_b7 : w.heap.size ≤ b7 := Nat.le_trans hsz hzl7
   have hWp_b7 := hszW
   have hbW_b7 := Nat.le_trans hszW hzl7
   replace hB := below_ext hB hE7 hsz
   replace hb1 := hb1.ext hE7
   replace hty_b1 := hty_b1.ext hE7
   replace hszW := Nat.le_trans hszW hE7.size
   replace hb6 := hb6.ext hE7
   replace hty_b6 := hty_b6.ext hE7
   replace hsz := Nat.le_trans hsz hE7.size
   refine m_o3 rfl rfl (o_storet (vs := [.slice na nd.length nc, .slice pa pl.length pc, .slice ca L.length cc]) (cs' := [.slice na nd.length nc, .slice pa pl.length pc, .slice ca L.length cc]) Tryz.sizeOf26 rfl rfl rfl rfl hb6 (Nat.le_of_ble_eq_true rfl) rfl rfl ?_)
   intro w8 hz8 hb6 hT8 hG8
   refine ⟨(below_upd_of hG8 hbW_b6 hszW), ?_⟩
   replace hB := below_upd hB hG8 hsz (by omega)
   replace hsz : w.heap.size ≤ w8.heap.size := by rw [hz8]; exact hsz
   replace hb1 := hb1.upd hG8 (by omega)
   replace hty_b1 := hty_b1.upd hG8 (by omega)
   replace hszW := Nat.le_trans hszW hG8.size
   replace hb7 := hb7.upd hG8 (by omega)
   replace hty_b7 := hty_b7.upd hG8 (by omega)
   replace hty_b6 := hT8 _ hty_b6
   refine m_o3 rfl rfl (o_storet (vs := [.slice na nd.length nc, .slice pa pl.length pc, .slice ca L.length cc]) (cs' := [.slice na nd.length nc, .slice pa pl.length pc, .slice ca L.length cc]) Tryz.sizeOf26 rfl rfl rfl rfl hb7 (Nat.le_of_ble_eq_true rfl) rfl rfl ?_)
   intro w9 hz9 hb7 hT9 hG9
   refine ⟨(below_upd_of hG9 hbW_b7 hszW), ?_⟩
   replace hB := below_upd hB hG9 hsz (by omega)
   replace hsz : w.heap.size ≤ w9.heap.size := by rw [hz9]; exact hsz
   replace hb1 := hb1.upd hG9 (by omega)
   replace hty_b1 := hty_b1.upd hG9 (by omega)
   replace hszW := Nat.le_trans hszW hG9.size
   replace hb6 := hb6.upd hG9 (by omega)
   replace hty_b6 := hty_b6.upd hG9 (by omega)
   replace hty_b7 := hT9 _ hty_b7
   refine m_nil3 ?_
   refine r_seq (r_region' ?_)
   refine l_q (q_assign (v := .slice _ _ _) rfl rfl) ?_
   refine l_nil (r_seq (r_seq (r_region' ?_)))
   refine l_q (q_assign (v := .int _ _) rfl rfl) ?_
   refine l_nil (r_block ?_)
   refine r_rounds (α := Nat × (Option Addr) × Nat × (List Int)) (fun ⟨i, oa, oc, ys⟩ e wl => Knows e [(1, .slice wa ws.length wc), (2, .int .u8 wh), (3, ptr b1 0), (7, ptr b6 0), (8, ptr b7 0), (9, .slice oa ((ys).length) oc), (10, vint (i : Int))] ∧ (i ≤ pl.length) ∧ (ys.length = i) ∧ (wl.ownsRow w.heap.size 3 1 (.slice oa ((ys).length) oc) ((ys).length) ((ys).map vint)) ∧ (Blk wl b1 [.slice na nd.length nc, .slice pa pl.length pc, .slice ca L.length cc]) ∧ (TyAt wl b1 26) ∧ (Blk wl b6 [.slice na nd.length nc, .slice pa pl.length pc, .slice ca L.length cc]) ∧ (TyAt wl b6 26) ∧ (Blk wl b7 [.slice na nd.length nc, .slice pa pl.length pc, .slice ca L.length cc]) ∧ (TyAt wl b7 26) ∧ (w.heap.size ≤ wl.heap.size) ∧ (Below w.heap.size w wl)) (fun ⟨i, oa, oc, ys⟩ => pl.length - i) (0, none, 0, []) ?_ ?_
   ·
    exact ⟨⟨rfl, rfl, rfl, rfl, rfl, rfl, rfl, trivial⟩, (Nat.zero_le _), rfl, (World.ownsRow_nil _ _ _ _), hb1, hty_b1, hb6, hty_b6, hb7, hty_b7, hsz, hB⟩
   ·
    rintro ⟨i, oa, oc, ys⟩ el10 wl10 ⟨hkn, hi, hyl, ho9, hb1, hty_b1, hb6, hty_b6, hb7, hty_b7, hsz, hB⟩ ih10
    obtain ⟨e10, rfl⟩ := knows_env hkn
    refine r_seq (r_seq (r_region' ?_))
    refine l_q (q_move (v := .int _ _) rfl rfl) ?_
    refine l_q (q_fieldAddr (o' := 1) rfl fld26_1 rfl) ?_
    refine l_q (q_load Tryz.isAgg23 rfl ((hb1.has (o := 1) rfl)) rfl) ?_
    refine l_q (q_len rfl Tryz.underlying23 rfl rfl) ?_
    refine l_q (q_lss rfl rfl rfl) ?_
    refine l_nil ?_
    refine r_cond rfl (fun hc11 => ?_) (fun hc11 => ?_)
    ·
     replace hc11 := dt hc11
     have hip : i < pl.length := by omega
     refine r_skip (r_seq (r_block ?_))
     refine r_draw3 ext_refl' ext_trans' (.op 0 (.op 1 (.op 2 (.op 4 (.op 5 (.op 6 (.op 7 (.op 3 (.op 8 (.op 9 (.op 10 (.op 11 (.op 12 (.done)))))))))))))) [3, 10, 11, 1011] 30 (by kernel_rfl) (by kernel_rfl) ?_
     intro w12 _ hE12
     replace hB := below_ext hB hE12 hsz
     replace hb1 := hb1.ext hE12
     replace hty_b1 := hty_b1.ext hE12
     replace hb6 := hb6.ext hE12
     replace hty_b6 := hty_b6.ext hE12
     replace hb7 := hb7.ext hE12
     replace hty_b7 := hty_b7.ext hE12
     replace ho9 := own_ext ho9 hE12
     replace hsz := Nat.le_trans hsz hE12.size
     refine m_q3 rfl rfl (fun w' hC' => q_move (v := .slice _ _ _) rfl rfl) ?_
     refine m_q3 rfl rfl (fun w' hC' => q_move (v := .slice _ _ _) rfl rfl) ?_
     refine m_q3 rfl rfl (fun w' hC' => q_move (v := .int _ _) rfl rfl) ?_
     refine m_q3 rfl rfl (fun w' hC' => q_fieldAddr (o' := 0) rfl fld26_0 rfl) ?_
     refine m_q3 rfl rfl (fun w' hC' => q_load Tryz.isAgg22 rfl (((hb1.has (o := 0) rfl).ext hC')) rfl) ?_
     refine m_q3 rfl rfl (fun w' hC' => q_len rfl Tryz.underlying22 rfl rfl) ?_
     refine m_q3 rfl rfl (fun w' hC' => q_add rfl rfl (by omega) rfl) ?_
     refine m_o3 rfl rfl (o_call Tryz.call41 rfl (word10_ret _ _ ws _ _ (hwd.below hB) hwn hwr (by omega)) rfl ?_)
     rintro _ w13 ⟨x13, rfl, hx13_0, hx13_1, hE13⟩
     refine ⟨hE13, ?_⟩
     replace hB := below_ext hB hE13 hsz
     replace hb1 := hb1.ext hE13
     replace hty_b1 := hty_b1.ext hE13
     replace hb6 := hb6.ext hE13
     replace hty_b6 := hty_b6.ext hE13
     replace hb7 := hb7.ext hE13
     replace hty_b7 := hty_b7.ext hE13
     replace ho9 := own_ext ho9 hE13
     replace hsz := Nat.le_trans hsz hE13.size
     refine m_q3 rfl rfl (fun w' hC' => q_rem rfl rfl (by omega) rfl) ?_
     refine m_q3 rfl rfl (fun w' hC' => q_sub rfl rfl (sub_rng (by omega) (by omega) (by omega)) rfl) ?_
     refine m_o3 rfl rfl (o_buildSlice (el := 3) (cs := [vint ((x13 % ((nd.length : Int) + 1)) - 1)]) Tryz.underlying22 el3 (by decide) (by kernel_rfl) rfl (by decide) rfl ?_)
     intro b14 w14 hzl14 hzr14 _ hb14 hE14 ho14
     refine ⟨hE14, ?_⟩
     have hne_b1_b14 : b1 ≠ b14 := by have := hb1.lt; omega
     have hne_b6_b14 : b6 ≠ b14 := by have := hb6.lt; omega
     have hne_b7_b14 : b7 ≠ b14 := by have := hb7.lt; omega
     have hbs_b14 : w.heap.size ≤ b14 := Nat.le_trans hsz hzl14
     replace hB := below_ext hB hE14 hsz
     replace hb1 := hb1.ext hE14
     replace hty_b1 := hty_b1.ext hE14
     replace hb6 := hb6.ext hE14
     replace hty_b6 := hty_b6.ext hE14
     replace hb7 := hb7.ext hE14
     replace hty_b7 := hty_b7.ext hE14
     replace ho9 := own_ext ho9 hE14
     replace hsz := Nat.le_trans hsz hE14.size
     refine m_last3 rfl rfl rfl (o_append_map (f := vint) (ys) ([(x13 % ((nd.length : Int) + 1)) - 1]) Tryz.underlying22 el3 rfl rfl ho9 rfl (Row.of_owns ho14) (fun _ => rfl) (by (try simp only [List.length_append, List.length_cons, List.length_nil, List.length_take, List.length_drop, List.length_replicate]); omega) (by omega) rfl ?_)
     intro a15 c15 w15 hz15 ho15 hG15
     replace hB := below_own hB hG15 ho9 (by omega) hsz
     replace hsz := Nat.le_trans hsz hG15.size
     replace hb1 := hb1.step hG15 (own_ty_ne ho9 hty_b1 (by decide))
     replace hb6 := hb6.step hG15 (own_ty_ne ho9 hty_b6 (by decide))
     replace hb7 := hb7.step hG15 (own_ty_ne ho9 hty_b7 (by decide))
     replace hty_b1 := TyAt.own hty_b1 ho9 hG15 (by decide)
     replace hty_b6 := TyAt.own hty_b6 ho9 hG15 (by decide)
     replace hty_b7 := TyAt.own hty_b7 ho9 hG15 (by decide)
     refine m_q3 rfl rfl (fun w' hC' => q_assign (v := .slice _ _ _) rfl rfl) ?_
     refine m_nil3 ?_
     refine r_forget [(1, .slice _ _ _), (2, .int _ _), (3, .pointer _), (7, .pointer _), (8, .pointer _), (9, .slice _ _ _), (10, .int _ _)] ⟨rfl, rfl, rfl, rfl, rfl, rfl, rfl, trivial⟩ (fun e16 => ?_)
     refine r_inBlock (r_region' ?_)
     refine l_q (q_move (v := .int _ _) rfl rfl) ?_
     refine l_q (q_add rfl rfl (by omega) rfl) ?_
     refine l_q (q_assign (v := .int _ _) rfl rfl) ?_
     refine l_nil ?_
     exact ih10 (i + 1, a15, c15, ys ++ [(x13 % ((nd.length : Int) + 1)) - 1]) _ _ ⟨⟨rfl, rfl, rfl, rfl, rfl, rfl, (vint_eq (by omega)), trivial⟩, (by omega), (by rw [List.length_append, hyl]; rfl), ho15, hb1, hty_b1, hb6, hty_b6, hb7, hty_b7, hsz, hB⟩ (by first | omega | (dsimp only; omega))
    ·
     replace hc11 := dlt hc11
     refine r_exit rfl ?_
     refine r_seq (r_region' ?_)
     refine l_q (q_fieldAddr (o' := 2) rfl fld26_2 rfl) ?_
     refine l_q (q_load Tryz.isAgg24 rfl ((hb1.has (o := 2) rfl)) rfl) ?_
     refine l_o (o_call Tryz.call21 rfl (rows10_ret _ _ L _ (hpo.rC.below hB) (hpo.rCr.below hB) hLl hLs) rfl ?_)
     have hszp17 : w.heap.size ≤ wl10.heap.size := hsz
     rintro _ w17 ⟨oa17, oc17, L17, rfl, ho17, hos17, hm17, hE17⟩
     replace ho17 := own_mono ho17 (show w.heap.size ≤ _ by omega)
     replace hB := below_ext hB hE17 hsz
     replace hb1 := hb1.ext hE17
     replace hty_b1 := hty_b1.ext hE17
     replace hb6 := hb6.ext hE17
     replace hty_b6 := hty_b6.ext hE17
     replace hb7 := hb7.ext hE17
     replace hty_b7 := hty_b7.ext hE17
     replace ho9 := own_ext ho9 hE17
     replace hsz := Nat.le_trans hsz hE17.size
     replace hos17 := hos17.mono hszp17
     have hmC := hm17
     have hmCl := congrArg List.length hm17
     rw [List.length_map, List.length_map] at hmCl
     refine l_q (q_move (v := .slice _ _ _) rfl rfl) ?_
     refine l_o (o_buildSlice (el := 22) (cs := [.slice oa ((ys).length) oc]) Tryz.underlying24 el22 (by decide) (by kernel_rfl) rfl (by decide) rfl ?_)
     intro b18 w18 hzl18 hzr18 _ hb18 hE18 ho18
     have hne_b1_b18 : b1 ≠ b18 := by have := hb1.lt; omega
     have hne_b6_b18 : b6 ≠ b18 := by have := hb6.lt; omega
     have hne_b7_b18 : b7 ≠ b18 := by have := hb7.lt; omega
     have hbs_b18 : w.heap.size ≤ b18 := Nat.le_trans hsz hzl18
     replace hB := below_ext hB hE18 hsz
     replace hb1 := hb1.ext hE18
     replace hty_b1 := hty_b1.ext hE18
     replace hb6 := hb6.ext hE18
     replace hty_b6 := hty_b6.ext hE18
     replace hb7 := hb7.ext hE18
     replace hty_b7 := hty_b7.ext hE18
     replace ho9 := own_ext ho9 hE18
     replace ho17 := own_ext ho17 hE18
     replace hos17 := hos17.ext hE18
     replace hsz := Nat.le_trans hsz hE18.size
     have hos18 : OwnsI w18 w.heap.size 3 ([⟨oa, oc, ys⟩] : List SV) := OwnsI.snoc (OwnsI.nil _ _ _) (own_mono ho9 (by omega))
     refine l_o (o_append_map (f := SV.enc) (L17) (([⟨oa, oc, ys⟩] : List SV)) Tryz.underlying24 el22 rfl rfl ho17 rfl (Row.of_owns ho18) (fun _ => rfl) (by (try simp only [List.length_append, List.length_cons, List.length_nil, List.length_take, List.length_drop, List.length_replicate]); omega) (by omega) rfl ?_)
     intro a19 c19 w19 hz19 ho19 hG19
     replace hB := below_own hB hG19 ho17 (by omega) hsz
     replace hsz := Nat.le_trans hsz hG19.size
     replace hb1 := hb1.step hG19 (own_ty_ne ho17 hty_b1 (by decide))
     replace hb6 := hb6.step hG19 (own_ty_ne ho17 hty_b6 (by decide))
     replace hb7 := hb7.step hG19 (own_ty_ne ho17 hty_b7 (by decide))
     replace ho9 := own_kept ho9 ho17 (by decide) hG19
     replace hos17 := hos17.kept ho17 (by decide) hG19
     replace hos18 := hos18.kept ho17 (by decide) hG19
     replace hty_b1 := TyAt.own hty_b1 ho17 hG19 (by decide)
     replace hty_b6 := TyAt.own hty_b6 ho17 hG19 (by decide)
     replace hty_b7 := TyAt.own hty_b7 ho17 hG19 (by decide)
     have hos19 : OwnsI w19 w.heap.size 3 (L17 ++ ([⟨oa, oc, ys⟩] : List SV)) := (hos17).snoc (own_mono ho9 (by omega))
     refine l_q (q_fieldAddr (o' := 2) rfl fld26_2 rfl) ?_
     refine l_o (o_storet (vs := [.slice a19 ((L17 ++ ([⟨oa, oc, ys⟩] : List SV)).length) c19]) (cs' := [.slice na nd.length nc, .slice pa pl.length pc, .slice a19 ((L17 ++ ([⟨oa, oc, ys⟩] : List SV)).length) c19]) Tryz.sizeOf24 rfl rfl rfl rfl hb6 (Nat.le_of_ble_eq_true rfl) rfl rfl ?_)
     intro w20 hz20 hb6 hT20 hG20
     replace hB := below_upd hB hG20 hsz (by omega)
     replace hsz : w.heap.size ≤ w20.heap.size := by rw [hz20]; exact hsz
     replace hb1 := hb1.upd hG20 (by omega)
     replace hty_b1 := hty_b1.upd hG20 (by omega)
     replace hb7 := hb7.upd hG20 (by omega)
     replace hty_b7 := hty_b7.upd hG20 (by omega)
     replace ho9 := own_ty_upd ho9 hty_b6 hG20 (by decide)
     replace hos17 := OwnsI.tyupd hos17 hty_b6 hG20 (by decide)
     replace hos18 := OwnsI.tyupd hos18 hty_b6 hG20 (by decide)
     replace hos19 := OwnsI.tyupd hos19 hty_b6 hG20 (by decide)
     replace ho19 := own_ty_upd ho19 hty_b6 hG20 (by decide)
     replace hty_b6 := hT20 _ hty_b6
     refine l_nil ?_
     refine r_forget [(2, .int _ _), (3, .pointer _), (7, .pointer _), (8, .pointer _)] ⟨rfl, rfl, rfl, rfl, trivial⟩ (fun e21 => ?_)
     refine r_seq ?_
     have hszR : w.heap.size ≤ w20.heap.size := hsz
     have hszW := Nat.le_refl w20.heap.size
     have hlt_hos17 := OwnsI.under hos17
     have hlt_hos18 := OwnsI.under hos18
     have hlt_hos19 := OwnsI.under hos19
     refine r_region' ?_
     refine l_q (q_fieldAddr (o' := 0) rfl fld26_0 rfl) ?_
     refine l_q (q_load Tryz.isAgg22 rfl ((hb1.has (o := 0) rfl)) rfl) ?_
     refine l_o (o_call Tryz.call33 rfl (list10_ret _ _ nd _ (hpo.rnd.below hB) (by omega)) rfl ?_)
     rintro _ w22 ⟨a22_0, c22_0, rfl, ho22_0, hE22⟩
     replace ho22_0 := own_mono ho22_0 (show w20.heap.size ≤ _ by omega)
     replace hB := below_ext hB hE22 hsz
     replace hb1 := hb1.ext hE22
     replace hty_b1 := hty_b1.ext hE22
     replace hb6 := hb6.ext hE22
     replace hty_b6 := hty_b6.ext hE22
     replace hb7 := hb7.ext hE22
     replace hty_b7 := hty_b7.ext hE22
     replace ho9 := own_ext ho9 hE22
     replace hos19 := hos19.ext hE22
     replace ho19 := own_ext ho19 hE22
     replace hszW := Nat.le_trans hszW hE22.size
     replace hsz := Nat.le_trans hsz hE22.size
     refine l_q (q_fieldAddr (o' := 0) rfl fld26_0 rfl) ?_
     refine l_o (o_storet (vs := [.slice a22_0 ((nd).length) c22_0]) (cs' := [.slice a22_0 ((nd).length) c22_0, .slice pa pl.length pc, .slice ca L.length cc]) Tryz.sizeOf22 rfl rfl rfl rfl hb7 (Nat.le_of_ble_eq_true rfl) rfl rfl ?_)
     intro w23 hz23 hb7 hT23 hG23
     replace hB := below_upd hB hG23 hsz (by omega)
     replace hsz : w.heap.size ≤ w23.heap.size := by rw [hz23]; exact hsz
     replace hb1 := hb1.upd hG23 (by omega)
     replace hty_b1 := hty_b1.upd hG23 (by omega)
     replace hb6 := hb6.upd hG23 (by omega)
     replace hty_b6 := hty_b6.upd hG23 (by omega)
     replace ho9 := own_ty_upd ho9 hty_b7 hG23 (by decide)
     replace hos19 := OwnsI.tyupd hos19 hty_b7 hG23 (by decide)
     replace ho19 := own_ty_upd ho19 hty_b7 hG23 (by decide)
     replace hszW := Nat.le_trans hszW hG23.size
     replace ho22_0 := own_ty_upd ho22_0 hty_b7 hG23 (by decide)
     replace hty_b7 := hT23 _ hty_b7
     refine l_nil (r_seq (r_region' ?_))
     refine l_q (q_move (v := .int _ _) rfl rfl) ?_
     refine l_q (q_toInt Tryz.underlying5 Tryz.underlying3 rfl (by omega) rfl) ?_
     refine l_q (q_fieldAddr (o' := 0) rfl fld26_0 rfl) ?_
     refine l_q (q_load Tryz.isAgg22 rfl ((hb1.has (o := 0) rfl)) rfl) ?_
     refine l_q (q_len rfl Tryz.underlying22 rfl rfl) ?_
     refine l_q (q_rem rfl rfl (by omega) rfl) ?_
     refine l_q (q_assign (v := .int _ _) rfl rfl) ?_
     refine l_nil ?_
     refine r_forget [(3, .pointer _), (7, .pointer _), (8, .pointer _), (11, .int _ _)] ⟨rfl, rfl, rfl, rfl, trivial⟩ (fun e24 => ?_)
     refine r_seq ?_
     have hk1 := Int.emod_nonneg wh (show (nd.length : Int) ≠ 0 by omega)
     have hk2 := Int.emod_lt_of_pos wh (show (0 : Int) < nd.length by omega)
     have hkk : (wh % (nd.length : Int)).toNat < nd.length := by omega
     have hnk := hnn _ (getD_lt (d := 0) hkk)
     refine r_draw ext_refl' ext_trans' [0, 1, 2, 3, 4, 5, 6, 7, 8, 9, 10, 11] [11, 1011] 40 (by kernel_rfl) (by kernel_rfl) ?_
     intro w25 _ hE25
     replace hB := below_ext hB hE25 hsz
     replace hb1 := hb1.ext hE25
     replace hty_b1 := hty_b1.ext hE25
     replace hb6 := hb6.ext hE25
     replace hty_b6 := hty_b6.ext hE25
     replace hb7 := hb7.ext hE25
     replace hty_b7 := hty_b7.ext hE25
     replace ho9 := own_ext ho9 hE25
     replace hos19 := hos19.ext hE25
     replace ho19 := own_ext ho19 hE25
     replace hszW := Nat.le_trans hszW hE25.size
     replace ho22_0 := own_ext ho22_0 hE25
     replace hsz := Nat.le_trans hsz hE25.size
     refine m_q rfl rfl (fun w' hC' => q_fieldAddr (o' := 0) rfl fld26_0 rfl) ?_
     refine m_q rfl rfl (fun w' hC' => q_load Tryz.isAgg22 rfl (((hb7.has (o := 0) rfl).ext hC')) rfl) ?_
     refine m_q rfl rfl (fun w' hC' => q_move (v := .int _ _) rfl rfl) ?_
     refine m_q rfl rfl (fun w' hC' => q_fieldAddr (o' := 0) rfl fld26_0 rfl) ?_
     refine m_q rfl rfl (fun w' hC' => q_load Tryz.isAgg22 rfl (((hb7.has (o := 0) rfl).ext hC')) rfl) ?_
     refine m_q rfl rfl (fun w' hC' => q_move (v := .int _ _) rfl rfl) ?_
     obtain ⟨b26, o26, ha26, hh26⟩ := (Row.of_owns ho22_0).at1 (wh % (nd.length : Int)).toNat ((nd).getD (wh % (nd.length : Int)).toNat 0) (getD_some (by omega))
     refine m_q rfl rfl (fun w' hC' => q_indexAddr1 Tryz.underlying22 Tryz.sizeOf3 rfl ha26 rfl (by omega) rfl) ?_
     refine m_q rfl rfl (fun w' hC' => q_load Tryz.isAgg3 rfl ((hh26.ext hC')) rfl) ?_
     refine m_q rfl rfl (fun w' hC' => q_add rfl rfl (by omega) rfl) ?_
     refine m_q rfl rfl (fun w' hC' => q_min rfl rfl rfl) ?_
     obtain ⟨b27, o27, ha27, hh27⟩ := (Row.of_owns ho22_0).at1 (wh % (nd.length : Int)).toNat ((nd).getD (wh % (nd.length : Int)).toNat 0) (getD_some (by omega))
     refine m_q rfl rfl (fun w' hC' => q_indexAddr1 Tryz.underlying22 Tryz.sizeOf3 rfl ha27 rfl (by omega) rfl) ?_
     refine m_last rfl rfl rfl (o_store_own (f := vint) nd ((wh % (nd.length : Int)).toNat) (min 2 (((nd).getD (wh % (nd.length : Int)).toNat 0) + 1)) Tryz.sizeOf3 rfl ha27 rfl rfl (fun _ => rfl) ho22_0 (by omega) rfl ?_)
     intro w28 hz28 ho28 hG28
     replace hB := below_own hB hG28 ho22_0 (by omega) hsz
     replace hsz := Nat.le_trans hsz hG28.size
     replace hb1 := hb1.step hG28 (own_ty_ne ho22_0 hty_b1 (by decide))
     replace hb6 := hb6.step hG28 (own_ty_ne ho22_0 hty_b6 (by decide))
     replace hb7 := hb7.step hG28 (own_ty_ne ho22_0 hty_b7 (by decide))
     replace hos19 := OwnsI.apart hos19 hlt_hos19 ho22_0 hG28
     replace ho19 := own_kept ho19 ho22_0 (by decide) hG28
     replace hszW := Nat.le_trans hszW hG28.size
     replace hty_b1 := TyAt.own hty_b1 ho22_0 hG28 (by decide)
     replace ho22_0 := ho28
     have hls28 : ((nd).set ((wh % (nd.length : Int)).toNat) (min 2 (((nd).getD (wh % (nd.length : Int)).toNat 0) + 1))).length = (nd).length := List.length_set
     refine m_nil ?_
     refine r_forget [(3, .pointer _), (7, .pointer _), (8, .pointer _)] ⟨rfl, rfl, rfl, trivial⟩ (fun e29 => ?_)
     refine r_seq ?_
     have hbgX : PoBig nd pl (L17 ++ ([⟨oa, oc, ys⟩] : List SV)) := big_app hbg hmC hL4 (show List.length ys ≤ _ by omega)
     have hbgY := big_set (k := (wh % (nd.length : Int)).toNat) (v := min 2 (nd.getD (wh % (nd.length : Int)).toNat 0 + 1)) hbg
     refine r_region' ?_
     refine l_q (q_load_agg (n := 3) Tryz.isAgg26 Tryz.sizeOf26 rfl ((hb6.cells' (cs' := [_, _, _]) 0 3 rfl)) rfl rfl) ?_
     refine l_o (o_call Tryz.call40 rfl (ready10_ret na nc nd pa pc pl a19 c19 (L17 ++ ([⟨oa, oc, ys⟩] : List SV)) _ ⟨(hpo.rnd.below hB), (hpo.rpl.below hB), (hpo.rplr.below hB), (Row.of_owns ho19), hos19.rows⟩ hbgX) rfl ?_)
     rintro _ w30 ⟨bb30, rfl, hrdy30, hE30⟩
     replace hB := below_ext hB hE30 hsz
     replace hb1 := hb1.ext hE30
     replace hty_b1 := hty_b1.ext hE30
     replace hb6 := hb6.ext hE30
     replace hb7 := hb7.ext hE30
     replace hos19 := hos19.ext hE30
     replace ho19 := own_ext ho19 hE30
     replace ho22_0 := own_ext ho22_0 hE30
     replace hsz := Nat.le_trans hsz hE30.size
     have hrdy := hrdy30
     refine l_q (q_not rfl rfl) ?_
     refine l_q (q_move (v := .bool _) rfl rfl) ?_
     refine l_part 68 rfl (fun hc31 => ?_) (fun hc31 => ?_)
     ·
      replace hc31 := nt hc31
      refine l_q (q_skip rfl) ?_
      refine l_q (q_skip rfl) ?_
      refine l_q (q_skip rfl) ?_
      refine l_q (q_pick_t (v := .bool _) rfl rfl rfl) ?_
      refine l_q (q_move (v := .bool _) rfl rfl) ?_
      refine l_q (q_load_agg (n := 3) Tryz.isAgg26 Tryz.sizeOf26 rfl ((hb7.cells' (cs' := [_, _, _]) 0 3 rfl)) rfl rfl) ?_
      refine l_q (q_load_agg (n := 3) Tryz.isAgg26 Tryz.sizeOf26 rfl ((hb1.cells' (cs' := [_, _, _]) 0 3 rfl)) rfl rfl) ?_
      refine l_o (o_call Tryz.call42 rfl ((by have h := harder10_ret a22_0 c22_0 ((nd).set ((wh % (nd.length : Int)).toNat) (min 2 (((nd).getD (wh % (nd.length : Int)).toNat 0) + 1))) pa pc pl ca cc L na nc nd pa pc pl ca cc L _ ⟨by rw [List.length_set]; exact Row.of_owns ho22_0, (hpo.rpl.below hB), (hpo.rplr.below hB), (hpo.rC.below hB), (hpo.rCr.below hB)⟩ hbgY (hpo.below hB) hbg hok (ok_set hok hkk) (Nat.le_refl _) (hard_set hok hkk); rw [List.length_set] at h; exact h)) rfl ?_)
      rintro _ w32 ⟨rfl, hE32⟩
      replace hB := below_ext hB hE32 hsz
      replace hb1 := hb1.ext hE32
      replace hty_b1 := hty_b1.ext hE32
      replace hb6 := hb6.ext hE32
      replace hb7 := hb7.ext hE32
      replace hos19 := hos19.ext hE32
      replace ho19 := own_ext ho19 hE32
      replace ho22_0 := own_ext ho22_0 hE32
      replace hsz := Nat.le_trans hsz hE32.size
      refine l_q (q_pick_t (v := .bool _) rfl rfl rfl) ?_
      refine l_q (q_move (v := .bool _) rfl rfl) ?_
      refine l_o (o_call Tryz.call17 rfl (awake_ret _) rfl ?_)
      rintro _ w33 ⟨rfl, hE33⟩
      replace hB := below_ext hB hE33 hsz
      replace hb1 := hb1.ext hE33
      replace hty_b1 := hty_b1.ext hE33
      replace hb6 := hb6.ext hE33
      replace hb7 := hb7.ext hE33
      replace hos19 := hos19.ext hE33
      replace ho19 := own_ext ho19 hE33
      replace ho22_0 := own_ext ho22_0 hE33
      replace hsz := Nat.le_trans hsz hE33.size
      refine l_q (q_pick_t (v := .bool _) rfl rfl rfl) ?_
      refine l_q (q_assign (v := .bool _) rfl rfl) ?_
      refine l_nil ?_
      refine r_forget [(6, .bool _)] ⟨rfl, trivial⟩ (fun e34 => ?_)
      refine r_ret_ (vs := [.bool _]) rfl Tryz.func7 rfl (.nil _) ⟨rfl, trivial⟩ ?_
      exact ⟨rfl, Ext.of_below hB⟩
     ·
      replace hc31 := nf hc31
      have hokx := hrdy hc31
      refine l_q (q_load_agg (n := 3) Tryz.isAgg26 Tryz.sizeOf26 rfl ((hb6.cells' (cs' := [_, _, _]) 0 3 rfl)) rfl rfl) ?_
      refine l_q (q_load_agg (n := 3) Tryz.isAgg26 Tryz.sizeOf26 rfl ((hb1.cells' (cs' := [_, _, _]) 0 3 rfl)) rfl rfl) ?_
      refine l_o (o_call Tryz.call42 rfl (harder10_ret na nc nd pa pc pl a19 c19 (L17 ++ ([⟨oa, oc, ys⟩] : List SV)) na nc nd pa pc pl ca cc L _ ⟨(hpo.rnd.below hB), (hpo.rpl.below hB), (hpo.rplr.below hB), (Row.of_owns ho19), hos19.rows⟩ hbgX (hpo.below hB) hbg hok hokx (Nat.le_refl _) (hard_app hmC)) rfl ?_)
      rintro _ w35 ⟨rfl, hE35⟩
      replace hB := below_ext hB hE35 hsz
      replace hb1 := hb1.ext hE35
      replace hty_b1 := hty_b1.ext hE35
      replace hb7 := hb7.ext hE35
      replace ho22_0 := own_ext ho22_0 hE35
      replace hsz := Nat.le_trans hsz hE35.size
      refine l_q (q_pick_f (v := .bool _) rfl rfl rfl) ?_
      refine l_q (q_move (v := .bool _) rfl rfl) ?_
      refine l_q (q_load_agg (n := 3) Tryz.isAgg26 Tryz.sizeOf26 rfl ((hb7.cells' (cs' := [_, _, _]) 0 3 rfl)) rfl rfl) ?_
      refine l_q (q_load_agg (n := 3) Tryz.isAgg26 Tryz.sizeOf26 rfl ((hb1.cells' (cs' := [_, _, _]) 0 3 rfl)) rfl rfl) ?_
      refine l_o (o_call Tryz.call42 rfl ((by have h := harder10_ret a22_0 c22_0 ((nd).set ((wh % (nd.length : Int)).toNat) (min 2 (((nd).getD (wh % (nd.length : Int)).toNat 0) + 1))) pa pc pl ca cc L na nc nd pa pc pl ca cc L _ ⟨by rw [List.length_set]; exact Row.of_owns ho22_0, (hpo.rpl.below hB), (hpo.rplr.below hB), (hpo.rC.below hB), (hpo.rCr.below hB)⟩ hbgY (hpo.below hB) hbg hok (ok_set hok hkk) (Nat.le_refl _) (hard_set hok hkk); rw [List.length_set] at h; exact h)) rfl ?_)
      rintro _ w36 ⟨rfl, hE36⟩
      replace hB := below_ext hB hE36 hsz
      replace hb1 := hb1.ext hE36
      replace hty_b1 := hty_b1.ext hE36
      replace hsz := Nat.le_trans hsz hE36.size
      refine l_q (q_pick_t (v := .bool _) rfl rfl rfl) ?_
      refine l_q (q_move (v := .bool _) rfl rfl) ?_
      refine l_o (o_call Tryz.call17 rfl (awake_ret _) rfl ?_)
      rintro _ w37 ⟨rfl, hE37⟩
      replace hB := below_ext hB hE37 hsz
      replace hb1 := hb1.ext hE37
      replace hty_b1 := hty_b1.ext hE37
      replace hsz := Nat.le_trans hsz hE37.size
      refine l_q (q_pick_t (v := .bool _) rfl rfl rfl) ?_
      refine l_q (q_assign (v := .bool _) rfl rfl) ?_
      refine l_nil ?_
      refine r_forget [(6, .bool _)] ⟨rfl, trivial⟩ (fun e38 => ?_)
      refine r_ret_ (vs := [.bool _]) rfl Tryz.func7 rfl (.nil _) ⟨rfl, trivial⟩ ?_
      exact ⟨rfl, Ext.of_below hB⟩
  ·
   refine m_o3 rfl rfl (o_alloct Tryz.zeroValue26 rfl rfl ?_)
   intro b39 w39 hzl39 hzr39 _ hb39 hty_b39 hE39
   refine ⟨(below_ext_of hE39 hszW), ?_⟩
   have hne_b1_b39 : b1 ≠ b39 := by have := hb1.lt; omega
   have hbs_b39 : w.heap.size ≤ b39 := Nat.le_trans hsz hzl39
   have hWp_b39 := hszW
   have hbW_b39 := Nat.le_trans hszW hzl39
   replace hB := below_ext hB hE39 hsz
   replace hb1 := hb1.ext hE39
   replace hty_b1 := hty_b1.ext hE39
   replace hszW := Nat.le_trans hszW hE39.size
   replace hsz := Nat.le_trans hsz hE39.size
   refine m_o3 rfl rfl (o_alloct Tryz.zeroValue26 rfl rfl ?_)
   intro b40 w40 hzl40 hzr40 _ hb40 hty_b40 hE40
   refine ⟨(below_ext_of hE40 hszW), ?_⟩
   have hne_b1_b40 : b1 ≠ b40 := by have := hb1.lt; omega
   have hne_b39_b40 : b39 ≠ b40 := by have := hb39.lt; omega
   have hbs_b40 : w.heap.size ≤ b40 := Nat.le_trans hsz hzl40
   have hWp_b40 := hszW
   have hbW_b40 := Nat.le_trans hszW hzl40
   replace hB := below_ext hB hE40 hsz
   replace hb1 := hb1.ext hE40
   replace hty_b1 := hty_b1.ext hE40
   replace hszW := Nat.le_trans hszW hE40.size
   replace hb39 := hb39.ext hE40
   replace hty_b39 := hty_b39.ext hE40
   replace hsz := Nat.le_trans hsz hE40.size
   refine m_o3 rfl rfl (o_storet (vs := [.slice na nd.length nc, .slice pa pl.length pc, .slice ca L.length cc]) (cs' := [.slice na nd.length nc, .slice pa pl.length pc, .slice ca L.length cc]) Tryz.sizeOf26 rfl rfl rfl rfl hb40 (Nat.le_of_ble_eq_true rfl) rfl rfl ?_)
   intro w41 hz41 hb40 hT41 hG41
   refine ⟨(below_upd_of hG41 hbW_b40 hszW), ?_⟩
   replace hB := below_upd hB hG41 hsz (by omega)
   replace hsz : w.heap.size ≤ w41.heap.size := by rw [hz41]; exact hsz
   replace hb1 := hb1.upd hG41 (by omega)
   replace hty_b1 := hty_b1.upd hG41 (by omega)
   replace hszW := Nat.le_trans hszW hG41.size
   replace hb39 := hb39.upd hG41 (by omega)
   replace hty_b39 := hty_b39.upd hG41 (by omega)
   replace hty_b40 := hT41 _ hty_b40
   refine m_o3 rfl rfl (o_storet (vs := [.slice na nd.length nc, .slice pa pl.length pc, .slice ca L.length cc]) (cs' := [.slice na nd.length nc, .slice pa pl.length pc, .slice ca L.length cc]) Tryz.sizeOf26 rfl rfl rfl rfl hb39 (Nat.le_of_ble_eq_true rfl) rfl rfl ?_)
   intro w42 hz42 hb39 hT42 hG42
   refine ⟨(below_upd_of hG42 hbW_b39 hszW), ?_⟩
   replace hB := below_upd hB hG42 hsz (by omega)
   replace hsz : w.heap.size ≤ w42.heap.size := by rw [hz42]; exact hsz
   replace hb1 := hb1.upd hG42 (by omega)
   replace hty_b1 := hty_b1.upd hG42 (by omega)
   replace hszW := Nat.le_trans hszW hG42.size
   replace hb40 := hb40.upd hG42 (by omega)
   replace hty_b40 := hty_b40.upd hG42 (by omega)
   replace hty_b39 := hT42 _ hty_b39
   refine m_nil3 ?_
   refine r_seq (r_region' ?_)
   refine l_q (q_assign (v := .slice _ _ _) rfl rfl) ?_
   refine l_nil (r_seq (r_seq (r_region' ?_)))
   refine l_q (q_assign (v := .int _ _) rfl rfl) ?_
   refine l_nil (r_block ?_)
   refine r_rounds (α := Nat × (Option Addr) × Nat × (List Int)) (fun ⟨i, oa, oc, ys⟩ e wl => Knows e [(1, .slice wa ws.length wc), (2, .int .u8 wh), (3, ptr b1 0), (7, ptr b40 0), (8, ptr b39 0), (9, .slice oa ((ys).length) oc), (10, vint (i : Int))] ∧ (i ≤ pl.length) ∧ (ys.length = i) ∧ (wl.ownsRow w.heap.size 3 1 (.slice oa ((ys).length) oc) ((ys).length) ((ys).map vint)) ∧ (Blk wl b1 [.slice na nd.length nc, .slice pa pl.length pc, .slice ca L.length cc]) ∧ (TyAt wl b1 26) ∧ (Blk wl b39 [.slice na nd.length nc, .slice pa pl.length pc, .slice ca L.length cc]) ∧ (TyAt wl b39 26) ∧ (Blk wl b40 [.slice na nd.length nc, .slice pa pl.length pc, .slice ca L.length cc]) ∧ (TyAt wl b40 26) ∧ (w.heap.size ≤ wl.heap.size) ∧ (Below w.heap.size w wl)) (fun ⟨i, oa, oc, ys⟩ => pl.length - i) (0, none, 0, []) ?_ ?_
   ·
    exact ⟨⟨rfl, rfl, rfl, rfl, rfl, rfl, rfl, trivial⟩, (Nat.zero_le _), rfl, (World.ownsRow_nil _ _ _ _), hb1, hty_b1, hb39, hty_b39, hb40, hty_b40, hsz, hB⟩
   ·
    rintro ⟨i, oa, oc, ys⟩ el43 wl43 ⟨hkn, hi, hyl, ho9, hb1, hty_b1, hb39, hty_b39, hb40, hty_b40, hsz, hB⟩ ih43
    obtain ⟨e43, rfl⟩ := knows_env hkn
    refine r_seq (r_seq (r_region' ?_))
    refine l_q (q_move (v := .int _ _) rfl rfl) ?_
    refine l_q (q_fieldAddr (o' := 1) rfl fld26_1 rfl) ?_
    refine l_q (q_load Tryz.isAgg23 rfl ((hb1.has (o := 1) rfl)) rfl) ?_
    refine l_q (q_len rfl Tryz.underlying23 rfl rfl) ?_
    refine l_q (q_lss rfl rfl rfl) ?_
    refine l_nil ?_
    refine r_cond rfl (fun hc44 => ?_) (fun hc44 => ?_)
    ·
     replace hc44 := dt hc44
     have hip : i < pl.length := by omega
     refine r_skip (r_seq (r_block ?_))
     refine r_draw3 ext_refl' ext_trans' (.op 0 (.op 1 (.op 2 (.op 4 (.op 5 (.op 6 (.op 7 (.op 3 (.op 8 (.op 9 (.op 10 (.op 11 (.op 12 (.done)))))))))))))) [3, 10, 11, 1011] 30 (by kernel_rfl) (by kernel_rfl) ?_
     intro w45 _ hE45
     replace hB := below_ext hB hE45 hsz
     replace hb1 := hb1.ext hE45
     replace hty_b1 := hty_b1.ext hE45
     replace hb39 := hb39.ext hE45
     replace hty_b39 := hty_b39.ext hE45
     replace hb40 := hb40.ext hE45
     replace hty_b40 := hty_b40.ext hE45
     replace ho9 := own_ext ho9 hE45
     replace hsz := Nat.le_trans hsz hE45.size
     refine m_q3 rfl rfl (fun w' hC' => q_move (v := .slice _ _ _) rfl rfl) ?_
     refine m_q3 rfl rfl (fun w' hC' => q_move (v := .slice _ _ _) rfl rfl) ?_
     refine m_q3 rfl rfl (fun w' hC' => q_move (v := .int _ _) rfl rfl) ?_
     refine m_q3 rfl rfl (fun w' hC' => q_fieldAddr (o' := 0) rfl fld26_0 rfl) ?_
     refine m_q3 rfl rfl (fun w' hC' => q_load Tryz.isAgg22 rfl (((hb1.has (o := 0) rfl).ext hC')) rfl) ?_
     refine m_q3 rfl rfl (fun w' hC' => q_len rfl Tryz.underlying22 rfl rfl) ?_
     refine m_q3 rfl rfl (fun w' hC' => q_add rfl rfl (by omega) rfl) ?_
     refine m_o3 rfl rfl (o_call Tryz.call41 rfl (word10_ret _ _ ws _ _ (hwd.below hB) hwn hwr (by omega)) rfl ?_)
     rintro _ w46 ⟨x46, rfl, hx46_0, hx46_1, hE46⟩
     refine ⟨hE46, ?_⟩
     replace hB := below_ext hB hE46 hsz
     replace hb1 := hb1.ext hE46
     replace hty_b1 := hty_b1.ext hE46
     replace hb39 := hb39.ext hE46
     replace hty_b39 := hty_b39.ext hE46
     replace hb40 := hb40.ext hE46
     replace hty_b40 := hty_b40.ext hE46
     replace ho9 := own_ext ho9 hE46
     replace hsz := Nat.le_trans hsz hE46.size
     refine m_q3 rfl rfl (fun w' hC' => q_rem rfl rfl (by omega) rfl) ?_
     refine m_q3 rfl rfl (fun w' hC' => q_sub rfl rfl (sub_rng (by omega) (by omega) (by omega)) rfl) ?_
     refine m_o3 rfl rfl (o_buildSlice (el := 3) (cs := [vint ((x46 % ((nd.length : Int) + 1)) - 1)]) Tryz.underlying22 el3 (by decide) (by kernel_rfl) rfl (by decide) rfl ?_)
     intro b47 w47 hzl47 hzr47 _ hb47 hE47 ho47
     refine ⟨hE47, ?_⟩
     have hne_b1_b47 : b1 ≠ b47 := by have := hb1.lt; omega
     have hne_b39_b47 : b39 ≠ b47 := by have := hb39.lt; omega
     have hne_b40_b47 : b40 ≠ b47 := by have := hb40.lt; omega
     have hbs_b47 : w.heap.size ≤ b47 := Nat.le_trans hsz hzl47
     replace hB := below_ext hB hE47 hsz
     replace hb1 := hb1.ext hE47
     replace hty_b1 := hty_b1.ext hE47
     replace hb39 := hb39.ext hE47
     replace hty_b39 := hty_b39.ext hE47
     replace hb40 := hb40.ext hE47
     replace hty_b40 := hty_b40.ext hE47
     replace ho9 := own_ext ho9 hE47
     replace hsz := Nat.le_trans hsz hE47.size
     refine m_last3 rfl rfl rfl (o_append_map (f := vint) (ys) ([(x46 % ((nd.length : Int) + 1)) - 1]) Tryz.underlying22 el3 rfl rfl ho9 rfl (Row.of_owns ho47) (fun _ => rfl) (by (try simp only [List.length_append, List.length_cons, List.length_nil, List.length_take, List.length_drop, List.length_replicate]); omega) (by omega) rfl ?_)
     intro a48 c48 w48 hz48 ho48 hG48
     replace hB := below_own hB hG48 ho9 (by omega) hsz
     replace hsz := Nat.le_trans hsz hG48.size
     replace hb1 := hb1.step hG48 (own_ty_ne ho9 hty_b1 (by decide))
     replace hb39 := hb39.step hG48 (own_ty_ne ho9 hty_b39 (by decide))
     replace hb40 := hb40.step hG48 (own_ty_ne ho9 hty_b40 (by decide))
     replace hty_b1 := TyAt.own hty_b1 ho9 hG48 (by decide)
     replace hty_b39 := TyAt.own hty_b39 ho9 hG48 (by decide)
     replace hty_b40 := TyAt.own hty_b40 ho9 hG48 (by decide)
     refine m_q3 rfl rfl (fun w' hC' => q_assign (v := .slice _ _ _) rfl rfl) ?_
     refine m_nil3 ?_
     refine r_forget [(1, .slice _ _ _), (2, .int _ _), (3, .pointer _), (7, .pointer _), (8, .pointer _), (9, .slice _ _ _), (10, .int _ _)] ⟨rfl, rfl, rfl, rfl, rfl, rfl, rfl, trivial⟩ (fun e49 => ?_)
     refine r_inBlock (r_region' ?_)
     refine l_q (q_move (v := .int _ _) rfl rfl) ?_
     refine l_q (q_add rfl rfl (by omega) rfl) ?_
     refine l_q (q_assign (v := .int _ _) rfl rfl) ?_
     refine l_nil ?_
     exact ih43 (i + 1, a48, c48, ys ++ [(x46 % ((nd.length : Int) + 1)) - 1]) _ _ ⟨⟨rfl, rfl, rfl, rfl, rfl, rfl, (vint_eq (by omega)), trivial⟩, (by omega), (by rw [List.length_append, hyl]; rfl), ho48, hb1, hty_b1, hb39, hty_b39, hb40, hty_b40, hsz, hB⟩ (by first | omega | (dsimp only; omega))
    ·
     replace hc44 := dlt hc44
     refine r_exit rfl ?_
     refine r_seq (r_region' ?_)
     refine l_q (q_fieldAddr (o' := 2) rfl fld26_2 rfl) ?_
     refine l_q (q_load Tryz.isAgg24 rfl ((hb1.has (o := 2) rfl)) rfl) ?_
     refine l_o (o_call Tryz.call21 rfl (rows10_ret _ _ L _ (hpo.rC.below hB) (hpo.rCr.below hB) hLl hLs) rfl ?_)
     have hszp50 : w.heap.size ≤ wl43.heap.size := hsz
     rintro _ w50 ⟨oa50, oc50, L50, rfl, ho50, hos50, hm50, hE50⟩
     replace ho50 := own_mono ho50 (show w.heap.size ≤ _ by omega)
     replace hB := below_ext hB hE50 hsz
     replace hb1 := hb1.ext hE50
     replace hty_b1 := hty_b1.ext hE50
     replace hb39 := hb39.ext hE50
     replace hty_b39 := hty_b39.ext hE50
     replace hb40 := hb40.ext hE50
     replace hty_b40 := hty_b40.ext hE50
     replace ho9 := own_ext ho9 hE50
     replace hsz := Nat.le_trans hsz hE50.size
     replace hos50 := hos50.mono hszp50
     have hmC := hm50
     have hmCl := congrArg List.length hm50
     rw [List.length_map, List.length_map] at hmCl
     refine l_q (q_move (v := .slice _ _ _) rfl rfl) ?_
     refine l_o (o_buildSlice (el := 22) (cs := [.slice oa ((ys).length) oc]) Tryz.underlying24 el22 (by decide) (by kernel_rfl) rfl (by decide) rfl ?_)
     intro b51 w51 hzl51 hzr51 _ hb51 hE51 ho51
     have hne_b1_b51 : b1 ≠ b51 := by have := hb1.lt; omega
     have hne_b39_b51 : b39 ≠ b51 := by have := hb39.lt; omega
     have hne_b40_b51 : b40 ≠ b51 := by have := hb40.lt; omega
     have hbs_b51 : w.heap.size ≤ b51 := Nat.le_trans hsz hzl51
     replace hB := below_ext hB hE51 hsz
     replace hb1 := hb1.ext hE51
     replace hty_b1 := hty_b1.ext hE51
     replace hb39 := hb39.ext hE51
     replace hty_b39 := hty_b39.ext hE51
     replace hb40 := hb40.ext hE51
     replace hty_b40 := hty_b40.ext hE51
     replace ho9 := own_ext ho9 hE51
     replace ho50 := own_ext ho50 hE51
     replace hos50 := hos50.ext hE51
     replace hsz := Nat.le_trans hsz hE51.size
     have hos51 : OwnsI w51 w.heap.size 3 ([⟨oa, oc, ys⟩] : List SV) := OwnsI.snoc (OwnsI.nil _ _ _) (own_mono ho9 (by omega))
     refine l_o (o_append_map (f := SV.enc) (L50) (([⟨oa, oc, ys⟩] : List SV)) Tryz.underlying24 el22 rfl rfl ho50 rfl (Row.of_owns ho51) (fun _ => rfl) (by (try simp only [List.length_append, List.length_cons, List.length_nil, List.length_take, List.length_drop, List.length_replicate]); omega) (by omega) rfl ?_)
     intro a52 c52 w52 hz52 ho52 hG52
     replace hB := below_own hB hG52 ho50 (by omega) hsz
     replace hsz := Nat.le_trans hsz hG52.size
     replace hb1 := hb1.step hG52 (own_ty_ne ho50 hty_b1 (by decide))
     replace hb39 := hb39.step hG52 (own_ty_ne ho50 hty_b39 (by decide))
     replace hb40 := hb40.step hG52 (own_ty_ne ho50 hty_b40 (by decide))
     replace ho9 := own_kept ho9 ho50 (by decide) hG52
     replace hos50 := hos50.kept ho50 (by decide) hG52
     replace hos51 := hos51.kept ho50 (by decide) hG52
     replace hty_b1 := TyAt.own hty_b1 ho50 hG52 (by decide)
     replace hty_b39 := TyAt.own hty_b39 ho50 hG52 (by decide)
     replace hty_b40 := TyAt.own hty_b40 ho50 hG52 (by decide)
     have hos52 : OwnsI w52 w.heap.size 3 (L50 ++ ([⟨oa, oc, ys⟩] : List SV)) := (hos50).snoc (own_mono ho9 (by omega))
     refine l_q (q_fieldAddr (o' := 2) rfl fld26_2 rfl) ?_
     refine l_o (o_storet (vs := [.slice a52 ((L50 ++ ([⟨oa, oc, ys⟩] : List SV)).length) c52]) (cs' := [.slice na nd.length nc, .slice pa pl.length pc, .slice a52 ((L50 ++ ([⟨oa, oc, ys⟩] : List SV)).length) c52]) Tryz.sizeOf24 rfl rfl rfl rfl hb40 (Nat.le_of_ble_eq_true rfl) rfl rfl ?_)
     intro w53 hz53 hb40 hT53 hG53
     replace hB := below_upd hB hG53 hsz (by omega)
     replace hsz : w.heap.size ≤ w53.heap.size := by rw [hz53]; exact hsz
     replace hb1 := hb1.upd hG53 (by omega)
     replace hty_b1 := hty_b1.upd hG53 (by omega)
     replace hb39 := hb39.upd hG53 (by omega)
     replace hty_b39 := hty_b39.upd hG53 (by omega)
     replace hos50 := OwnsI.tyupd hos50 hty_b40 hG53 (by decide)
     replace hos51 := OwnsI.tyupd hos51 hty_b40 hG53 (by decide)
     replace hos52 := OwnsI.tyupd hos52 hty_b40 hG53 (by decide)
     replace ho52 := own_ty_upd ho52 hty_b40 hG53 (by decide)
     replace hty_b40 := hT53 _ hty_b40
     refine l_nil ?_
     refine r_forget [(2, .int _ _), (3, .pointer _), (7, .pointer _), (8, .pointer _)] ⟨rfl, rfl, rfl, rfl, trivial⟩ (fun e54 => ?_)
     refine r_seq ?_
     have hszR : w.heap.size ≤ w53.heap.size := hsz
     have hszW := Nat.le_refl w53.heap.size
     have hlt_hos50 := OwnsI.under hos50
     have hlt_hos51 := OwnsI.under hos51
     have hlt_hos52 := OwnsI.under hos52
     refine r_region' ?_
     refine l_q (q_fieldAddr (o' := 0) rfl fld26_0 rfl) ?_
     refine l_q (q_load Tryz.isAgg22 rfl ((hb1.has (o := 0) rfl)) rfl) ?_
     refine l_o (o_call Tryz.call33 rfl (list10_ret _ _ nd _ (hpo.rnd.below hB) (by omega)) rfl ?_)
     rintro _ w55 ⟨a55_0, c55_0, rfl, ho55_0, hE55⟩
     replace ho55_0 := own_mono ho55_0 (show w53.heap.size ≤ _ by omega)
     replace hB := below_ext hB hE55 hsz
     replace hb1 := hb1.ext hE55
     replace hty_b1 := hty_b1.ext hE55
     replace hb39 := hb39.ext hE55
     replace hty_b39 := hty_b39.ext hE55
     replace hb40 := hb40.ext hE55
     replace hty_b40 := hty_b40.ext hE55
     replace hos52 := hos52.ext hE55
     replace ho52 := own_ext ho52 hE55
     replace hszW := Nat.le_trans hszW hE55.size
     replace hsz := Nat.le_trans hsz hE55.size
     refine l_q (q_fieldAddr (o' := 0) rfl fld26_0 rfl) ?_
     refine l_o (o_storet (vs := [.slice a55_0 ((nd).length) c55_0]) (cs' := [.slice a55_0 ((nd).length) c55_0, .slice pa pl.length pc, .slice ca L.length cc]) Tryz.sizeOf22 rfl rfl rfl rfl hb39 (Nat.le_of_ble_eq_true rfl) rfl rfl ?_)
     intro w56 hz56 hb39 hT56 hG56
     replace hB := below_upd hB hG56 hsz (by omega)
     replace hsz : w.heap.size ≤ w56.heap.size := by rw [hz56]; exact hsz
     replace hb1 := hb1.upd hG56 (by omega)
     replace hty_b1 := hty_b1.upd hG56 (by omega)
     replace hb40 := hb40.upd hG56 (by omega)
     replace hty_b40 := hty_b40.upd hG56 (by omega)
     replace hos52 := OwnsI.tyupd hos52 hty_b39 hG56 (by decide)
     replace ho52 := own_ty_upd ho52 hty_b39 hG56 (by decide)
     replace hszW := Nat.le_trans hszW hG56.size
     replace ho55_0 := own_ty_upd ho55_0 hty_b39 hG56 (by decide)
     replace hty_b39 := hT56 _ hty_b39
     refine l_nil (r_seq (r_region' ?_))
     refine l_q (q_move (v := .int _ _) rfl rfl) ?_
     refine l_q (q_toInt Tryz.underlying5 Tryz.underlying3 rfl (by omega) rfl) ?_
     refine l_q (q_fieldAddr (o' := 0) rfl fld26_0 rfl) ?_
     refine l_q (q_load Tryz.isAgg22 rfl ((hb1.has (o := 0) rfl)) rfl) ?_
     refine l_q (q_len rfl Tryz.underlying22 rfl rfl) ?_
     refine l_q (q_rem rfl rfl (by omega) rfl) ?_
     refine l_q (q_assign (v := .int _ _) rfl rfl) ?_
     refine l_nil ?_
     refine r_forget [(3, .pointer _), (7, .pointer _), (8, .pointer _), (11, .int _ _)] ⟨rfl, rfl, rfl, rfl, trivial⟩ (fun e57 => ?_)
     refine r_seq ?_
     have hk1 := Int.emod_nonneg wh (show (nd.length : Int) ≠ 0 by omega)
     have hk2 := Int.emod_lt_of_pos wh (show (0 : Int) < nd.length by omega)
     have hkk : (wh % (nd.length : Int)).toNat < nd.length := by omega
     have hnk := hnn _ (getD_lt (d := 0) hkk)
     refine r_draw ext_refl' ext_trans' [0, 1, 2, 3, 4, 5, 6, 7, 8, 9, 10, 11] [11, 1011] 40 (by kernel_rfl) (by kernel_rfl) ?_
     intro w58 _ hE58
     replace hB := below_ext hB hE58 hsz
     replace hb1 := hb1.ext hE58
     replace hty_b1 := hty_b1.ext hE58
     replace hb39 := hb39.ext hE58
     replace hty_b39 := hty_b39.ext hE58
     replace hb40 := hb40.ext hE58
     replace hty_b40 := hty_b40.ext hE58
     replace hos52 := hos52.ext hE58
     replace ho52 := own_ext ho52 hE58
     replace hszW := Nat.le_trans hszW hE58.size
     replace ho55_0 := own_ext ho55_0 hE58
     replace hsz := Nat.le_trans hsz hE58.size
     refine m_q rfl rfl (fun w' hC' => q_fieldAddr (o' := 0) rfl fld26_0 rfl) ?_
     refine m_q rfl rfl (fun w' hC' => q_load Tryz.isAgg22 rfl (((hb39.has (o := 0) rfl).ext hC')) rfl) ?_
     refine m_q rfl rfl (fun w' hC' => q_move (v := .int _ _) rfl rfl) ?_
     refine m_q rfl rfl (fun w' hC' => q_fieldAddr (o' := 0) rfl fld26_0 rfl) ?_
     refine m_q rfl rfl (fun w' hC' => q_load Tryz.isAgg22 rfl (((hb39.has (o := 0) rfl).ext hC')) rfl) ?_
     refine m_q rfl rfl (fun w' hC' => q_move (v := .int _ _) rfl rfl) ?_
     obtain ⟨b59, o59, ha59, hh59⟩ := (Row.of_owns ho55_0).at1 (wh % (nd.length : Int)).toNat ((nd).getD (wh % (nd.length : Int)).toNat 0) (getD_some (by omega))
     refine m_q rfl rfl (fun w' hC' => q_indexAddr1 Tryz.underlying22 Tryz.sizeOf3 rfl ha59 rfl (by omega) rfl) ?_
     refine m_q rfl rfl (fun w' hC' => q_load Tryz.isAgg3 rfl ((hh59.ext hC')) rfl) ?_
     refine m_q rfl rfl (fun w' hC' => q_add rfl rfl (by omega) rfl) ?_
     refine m_q rfl rfl (fun w' hC' => q_min rfl rfl rfl) ?_
     obtain ⟨b60, o60, ha60, hh60⟩ := (Row.of_owns ho55_0).at1 (wh % (nd.length : Int)).toNat ((nd).getD (wh % (nd.length : Int)).toNat 0) (getD_some (by omega))
     refine m_q rfl rfl (fun w' hC' => q_indexAddr1 Tryz.underlying22 Tryz.sizeOf3 rfl ha60 rfl (by omega) rfl) ?_
     refine m_last rfl rfl rfl (o_store_own (f := vint) nd ((wh % (nd.length : Int)).toNat) (min 2 (((nd).getD (wh % (nd.length : Int)).toNat 0) + 1)) Tryz.sizeOf3 rfl ha60 rfl rfl (fun _ => rfl) ho55_0 (by omega) rfl ?_)
     intro w61 hz61 ho61 hG61
     replace hB := below_own hB hG61 ho55_0 (by omega) hsz
     replace hsz := Nat.le_trans hsz hG61.size
     replace hb1 := hb1.step hG61 (own_ty_ne ho55_0 hty_b1 (by decide))
     replace hb39 := hb39.step hG61 (own_ty_ne ho55_0 hty_b39 (by decide))
     replace hb40 := hb40.step hG61 (own_ty_ne ho55_0 hty_b40 (by decide))
     replace hos52 := OwnsI.apart hos52 hlt_hos52 ho55_0 hG61
     replace ho52 := own_kept ho52 ho55_0 (by decide) hG61
     replace hszW := Nat.le_trans hszW hG61.size
     replace ho55_0 := ho61
     have hls61 : ((nd).set ((wh % (nd.length : Int)).toNat) (min 2 (((nd).getD (wh % (nd.length : Int)).toNat 0) + 1))).length = (nd).length := List.length_set
     refine m_nil ?_
     refine r_forget [(3, .pointer _), (7, .pointer _), (8, .pointer _)] ⟨rfl, rfl, rfl, trivial⟩ (fun e62 => ?_)
     refine r_seq ?_
     have hbgX : PoBig nd pl (L50 ++ ([⟨oa, oc, ys⟩] : List SV)) := big_app hbg hmC hL4 (show List.length ys ≤ _ by omega)
     have hbgY := big_set (k := (wh % (nd.length : Int)).toNat) (v := min 2 (nd.getD (wh % (nd.length : Int)).toNat 0 + 1)) hbg
     refine r_region' ?_
     refine l_q (q_load_agg (n := 3) Tryz.isAgg26 Tryz.sizeOf26 rfl ((hb40.cells' (cs' := [_, _, _]) 0 3 rfl)) rfl rfl) ?_
     refine l_o (o_call Tryz.call40 rfl (ready10_ret na nc nd pa pc pl a52 c52 (L50 ++ ([⟨oa, oc, ys⟩] : List SV)) _ ⟨(hpo.rnd.below hB), (hpo.rpl.below hB), (hpo.rplr.below hB), (Row.of_owns ho52), hos52.rows⟩ hbgX) rfl ?_)
     rintro _ w63 ⟨bb63, rfl, hrdy63, hE63⟩
     replace hB := below_ext hB hE63 hsz
     replace hb1 := hb1.ext hE63
     replace hb39 := hb39.ext hE63
     replace hb40 := hb40.ext hE63
     replace hos52 := hos52.ext hE63
     replace ho52 := own_ext ho52 hE63
     replace ho55_0 := own_ext ho55_0 hE63
     replace hsz := Nat.le_trans hsz hE63.size
     have hrdy := hrdy63
     refine l_q (q_not rfl rfl) ?_
     refine l_q (q_move (v := .bool _) rfl rfl) ?_
     refine l_part 68 rfl (fun hc64 => ?_) (fun hc64 => ?_)
     ·
      replace hc64 := nt hc64
      refine l_q (q_skip rfl) ?_
      refine l_q (q_skip rfl) ?_
      refine l_q (q_skip rfl) ?_
      refine l_q (q_pick_t (v := .bool _) rfl rfl rfl) ?_
      refine l_q (q_move (v := .bool _) rfl rfl) ?_
      refine l_q (q_load_agg (n := 3) Tryz.isAgg26 Tryz.sizeOf26 rfl ((hb39.cells' (cs' := [_, _, _]) 0 3 rfl)) rfl rfl) ?_
      refine l_q (q_load_agg (n := 3) Tryz.isAgg26 Tryz.sizeOf26 rfl ((hb1.cells' (cs' := [_, _, _]) 0 3 rfl)) rfl rfl) ?_
      refine l_o (o_call Tryz.call42 rfl ((by have h := harder10_ret a55_0 c55_0 ((nd).set ((wh % (nd.length : Int)).toNat) (min 2 (((nd).getD (wh % (nd.length : Int)).toNat 0) + 1))) pa pc pl ca cc L na nc nd pa pc pl ca cc L _ ⟨by rw [List.length_set]; exact Row.of_owns ho55_0, (hpo.rpl.below hB), (hpo.rplr.below hB), (hpo.rC.below hB), (hpo.rCr.below hB)⟩ hbgY (hpo.below hB) hbg hok (ok_set hok hkk) (Nat.le_refl _) (hard_set hok hkk); rw [List.length_set] at h; exact h)) rfl ?_)
      rintro _ w65 ⟨rfl, hE65⟩
      replace hB := below_ext hB hE65 hsz
      replace hb1 := hb1.ext hE65
      replace hb39 := hb39.ext hE65
      replace hb40 := hb40.ext hE65
      replace hos52 := hos52.ext hE65
      replace ho52 := own_ext ho52 hE65
      replace ho55_0 := own_ext ho55_0 hE65
      replace hsz := Nat.le_trans hsz hE65.size
      refine l_q (q_pick_t (v := .bool _) rfl rfl rfl) ?_
      refine l_q (q_move (v := .bool _) rfl rfl) ?_
      refine l_o (o_call Tryz.call17 rfl (awake_ret _) rfl ?_)
      rintro _ w66 ⟨rfl, hE66⟩
      replace hB := below_ext hB hE66 hsz
      replace hb1 := hb1.ext hE66
      replace hb39 := hb39.ext hE66
      replace hb40 := hb40.ext hE66
      replace hos52 := hos52.ext hE66
      replace ho52 := own_ext ho52 hE66
      replace ho55_0 := own_ext ho55_0 hE66
      replace hsz := Nat.le_trans hsz hE66.size
      refine l_q (q_pick_t (v := .bool _) rfl rfl rfl) ?_
      refine l_q (q_assign (v := .bool _) rfl rfl) ?_
      refine l_nil ?_
      refine r_forget [(6, .bool _)] ⟨rfl, trivial⟩ (fun e67 => ?_)
      refine r_ret_ (vs := [.bool _]) rfl Tryz.func7 rfl (.nil _) ⟨rfl, trivial⟩ ?_
      exact ⟨rfl, Ext.of_below hB⟩
     ·
      replace hc64 := nf hc64
      have hokx := hrdy hc64
      refine l_q (q_load_agg (n := 3) Tryz.isAgg26 Tryz.sizeOf26 rfl ((hb40.cells' (cs' := [_, _, _]) 0 3 rfl)) rfl rfl) ?_
      refine l_q (q_load_agg (n := 3) Tryz.isAgg26 Tryz.sizeOf26 rfl ((hb1.cells' (cs' := [_, _, _]) 0 3 rfl)) rfl rfl) ?_
      refine l_o (o_call Tryz.call42 rfl (harder10_ret na nc nd pa pc pl a52 c52 (L50 ++ ([⟨oa, oc, ys⟩] : List SV)) na nc nd pa pc pl ca cc L _ ⟨(hpo.rnd.below hB), (hpo.rpl.below hB), (hpo.rplr.below hB), (Row.of_owns ho52), hos52.rows⟩ hbgX (hpo.below hB) hbg hok hokx (Nat.le_refl _) (hard_app hmC)) rfl ?_)
      rintro _ w68 ⟨rfl, hE68⟩
      replace hB := below_ext hB hE68 hsz
      replace hb1 := hb1.ext hE68
      replace hb39 := hb39.ext hE68
      replace ho55_0 := own_ext ho55_0 hE68
      replace hsz := Nat.le_trans hsz hE68.size
      refine l_q (q_pick_f (v := .bool _) rfl rfl rfl) ?_
      refine l_q (q_move (v := .bool _) rfl rfl) ?_
      refine l_q (q_load_agg (n := 3) Tryz.isAgg26 Tryz.sizeOf26 rfl ((hb39.cells' (cs' := [_, _, _]) 0 3 rfl)) rfl rfl) ?_
      refine l_q (q_load_agg (n := 3) Tryz.isAgg26 Tryz.sizeOf26 rfl ((hb1.cells' (cs' := [_, _, _]) 0 3 rfl)) rfl rfl) ?_
      refine l_o (o_call Tryz.call42 rfl ((by have h := harder10_ret a55_0 c55_0 ((nd).set ((wh % (nd.length : Int)).toNat) (min 2 (((nd).getD (wh % (nd.length : Int)).toNat 0) + 1))) pa pc pl ca cc L na nc nd pa pc pl ca cc L _ ⟨by rw [List.length_set]; exact Row.of_owns ho55_0, (hpo.rpl.below hB), (hpo.rplr.below hB), (hpo.rC.below hB), (hpo.rCr.below hB)⟩ hbgY (hpo.below hB) hbg hok (ok_set hok hkk) (Nat.le_refl _) (hard_set hok hkk); rw [List.length_set] at h; exact h)) rfl ?_)
      rintro _ w69 ⟨rfl, hE69⟩
      replace hB := below_ext hB hE69 hsz
      replace hsz := Nat.le_trans hsz hE69.size
      refine l_q (q_pick_t (v := .bool _) rfl rfl rfl) ?_
      refine l_q (q_move (v := .bool _) rfl rfl) ?_
      refine l_o (o_call Tryz.call17 rfl (awake_ret _) rfl ?_)
      rintro _ w70 ⟨rfl, hE70⟩
      replace hB := below_ext hB hE70 hsz
      replace hsz := Nat.le_trans hsz hE70.size
      refine l_q (q_pick_t (v := .bool _) rfl rfl rfl) ?_
      refine l_q (q_assign (v := .bool _) rfl rfl) ?_
      refine l_nil ?_
      refine r_forget [(6, .bool _)] ⟨rfl, trivial⟩ (fun e71 => ?_)
      refine r_ret_ (vs := [.bool _]) rfl Tryz.func7 rfl (.nil _) ⟨rfl, trivial⟩ ?_
      exact ⟨rfl, Ext.of_below hB⟩
end Go.Proofs.YtgdanglidienmaaGreat
