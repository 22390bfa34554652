/- Contracts. -/
import Derived.Test.YtgdanglidienmaaGreatR27
import Derived.Test.YtgdanglidienmaaGreatR23
set_option linter.unusedVariables false
set_option linter.unusedSimpArgs false
namespace Go.Proofs.YtgdanglidienmaaGreat
open Go Go.RowKit Go.Gv Go.Fl

theorem lat_big {nd : List Int} {pl : List PV} {L M : List SV} {k : Nat} {b nn : Int} (h : LatAt k b nn L.length L M) (hb : PoBig nd pl L) : PoBig nd pl M := ⟨hb.1, hb.2.1, by rw [h.1]; exact hb.2.2.1, fun s hs => by
  obtain ⟨i, hi, rfl⟩ := List.mem_iff_getElem.1 hs
  have hi2 : i < L.length := by rw [← h.1]; exact hi
  have h1 := h.2 i hi2
  have h3 : M.getD i sv0 = M[i] := by rw [List.getD_eq_getElem?_getD, List.getElem?_eq_getElem hi]; rfl
  rw [if_pos hi2, h3] at h1
  rw [h1]
  unfold latL
  rw [List.length_set]
  exact hb.2.2.2.1 _ (getD_lt hi2), hb.2.2.2.2⟩
theorem gss {l : List SV} {i : Nat} {s : SV} (h : i < l.length) : (l.set i s).getD i sv0 = s := by rw [List.getD_eq_getElem?_getD, List.getElem?_set, if_pos rfl, if_pos h]; rfl
theorem rows_set {w : World} {B B' el i : Nat} {l : List SV} {ea : Option Addr} {ec : Nat} {es : List Int} (h : OwnsI w B el l) (he : w.ownsRow B' el 1 (.slice ea es.length ec) es.length (es.map vint)) : RowsI w (l.set i ⟨ea, ec, es⟩) := fun s hs => by
  rcases List.mem_or_eq_of_mem_set hs with h1 | rfl
  · exact h.rows s h1
  · exact Row.of_owns he
theorem add_yes {k : Int} {l es : List Int} {i : Nat} (h : es = addL k l i) (g : (decide ((i : Int) = k) || hasI l (i : Int)) = true) : es ++ [(i : Int)] = addL k l (i + 1) := by rw [addL_succ, if_pos g, ← h]
theorem add_no {k : Int} {l es : List Int} {i : Nat} (h : es = addL k l i) (g : (decide ((i : Int) = k) || hasI l (i : Int)) = false) : es = addL k l (i + 1) := by rw [addL_succ, if_neg (by rw [g]; decide), List.append_nil, ← h]
theorem isr_set {nd : List Int} {p w : Nat} {T : List (List Int)} {x : List Int} (h : IsR nd p T) (hx : risB x (p : Int) = true) : IsR nd p (T.set w x) := ⟨by rw [List.length_set]; exact h.1, fun on hon => by
  rcases List.mem_or_eq_of_mem_set hon with h1 | rfl
  · exact h.2 on h1
  · exact hx⟩
theorem set_sub {T : List (List Int)} {w : Nat} {x : List Int} (h : (T.getD w []).Sublist x) : ∀ k, k < T.length → (T.getD k []).Sublist ((T.set w x).getD k []) := fun k hk => by
  by_cases hw : w = k
  · subst hw
    have h1 : (T.set w x).getD w [] = x := by rw [List.getD_eq_getElem?_getD, List.getElem?_set, if_pos rfl, if_pos hk]; rfl
    rw [h1]; exact h
  · have h1 : (T.set w x).getD k [] = T.getD k [] := by rw [List.getD_eq_getElem?_getD, List.getElem?_set, if_neg hw, ← List.getD_eq_getElem?_getD]
    rw [h1]; exact List.Sublist.refl _
theorem ob_len (a : Option Addr) (n n' c : Nat) : (Value.slice a n c).ownBlock = (Value.slice a n' c).ownBlock := by cases a <;> rfl
theorem enc_len (a : Option Addr) (c : Nat) (xs ys : List Int) (h : xs.length = ys.length := by first | rfl | exact List.length_set) : (⟨a, c, xs⟩ : SV).enc = (⟨a, c, ys⟩ : SV).enc := by show Value.slice a xs.length c = Value.slice a ys.length c; rw [h]
theorem set_enc {l : List SV} {i : Nat} {s : SV} (hi : i < l.length) (h : s.enc = (l.getD i sv0).enc) : (l.set i s).map SV.enc = l.map SV.enc := by
  rw [List.map_set, h, List.getD_eq_getElem?_getD, List.getElem?_eq_getElem hi]
  show (l.map SV.enc).set i (SV.enc l[i]) = _
  rw [← List.getElem_map (f := SV.enc) (h := by rw [List.length_map]; exact hi), List.set_getElem_self]


set_option maxHeartbeats 400000 in
set_option maxRecDepth 100000 in
theorem rotaLater_ret (na : Option Addr) (nc : Nat) (nd : List Int) (pa : Option Addr) (pc : Nat) (pl : List PV) (ca : Option Addr) (cc : Nat) (L : List SV) (wa : Option Addr) (wc : Nat) (ws : List Int) (wh wn bz : Int) (w : World) (hpo : PoAt w na nc nd pa pc pl ca cc L) (hbg : PoBig nd pl L) (hwd : Row w wa ws.length wc 1 (ws.map (Value.int .u16))) (hwn : ws.length ≤ 2097152) (hwr : ∀ x ∈ ws, 0 ≤ x ∧ x ≤ 65535) (hwh : 0 ≤ wh ∧ wh ≤ 255) (hwn2 : 0 ≤ wn ∧ wn ≤ 255) (hbz : 0 ≤ bz ∧ bz ≤ 255) : Ret Tryz.prog 8 [.agg ⟨[.slice na nd.length nc, .slice pa pl.length pc, .slice ca L.length cc]⟩, .slice wa ws.length wc, .int .u8 wh, .int .u8 wn, .int .u8 bz] w (fun v w' => v = .bool true ∧ Ext w w') := by
 obtain ⟨hnl, hpll, hLl, hLs, hPb⟩ := id hbg
 have hB := Below.refl w.heap.size w
 have hsz : w.heap.size ≤ w.heap.size := Nat.le_refl _
 refine ret_of_runs (args := [_, _, _, _, _]) Tryz.func8 rfl (Nat.le_of_ble_eq_true rfl) (by kernel_rfl) ?_
 refine r_seq (r_region' ?_)
 refine l_o (o_boxt rfl rfl rfl ?_)
 intro b1 w1 hzl1 hzr1 _ hb1 hty_b1 hE1
 have hbs_b1 : w.heap.size ≤ b1 := Nat.le_trans hsz hzl1
 replace hB := below_ext hB hE1 hsz
 replace hsz := Nat.le_trans hsz hE1.size
 refine l_q (q_assign (v := .bool _) rfl rfl) ?_
 refine l_nil (r_seq (r_seq (r_region' ?_)))
 refine l_q (q_load_agg (n := 3) Tryz.isAgg26 Tryz.sizeOf26 rfl ((hb1.cells' (cs' := [_, _, _]) 0 3 rfl)) rfl rfl) ?_
 refine l_o (o_call Tryz.call40 rfl (ready10_ret na nc nd pa pc pl ca cc L _ (hpo.below hB) hbg) rfl ?_)
 rintro _ w2 ⟨bb2, rfl, hrdy2, hE2⟩
 replace hB := below_ext hB hE2 hsz
 replace hb1 := hb1.ext hE2
 replace hty_b1 := hty_b1.ext hE2
 replace hsz := Nat.le_trans hsz hE2.size
 have hrdy := hrdy2
 refine l_q (q_not rfl rfl) ?_
 refine l_nil ?_
 refine r_cond rfl (fun hc3 => ?_) (fun hc3 => ?_)
 ·
  replace hc3 := nt hc3
  refine r_seq (r_region' ?_)
  refine l_o (o_call Tryz.call17 rfl (awake_ret _) rfl ?_)
  rintro _ w4 ⟨rfl, hE4⟩
  replace hB := below_ext hB hE4 hsz
  replace hb1 := hb1.ext hE4
  replace hty_b1 := hty_b1.ext hE4
  replace hsz := Nat.le_trans hsz hE4.size
  refine l_q (q_assign (v := .bool _) rfl rfl) ?_
  refine l_nil ?_
  refine r_forget [(10, .bool _)] ⟨rfl, trivial⟩ (fun e5 => ?_)
  refine r_ret_ (vs := [.bool _]) rfl Tryz.func8 rfl (.nil _) ⟨rfl, trivial⟩ ?_
  exact ⟨rfl, Ext.of_below hB⟩
 ·
  replace hc3 := nf hc3
  have hok := hrdy hc3
  obtain ⟨⟨hn1, hn5⟩, ⟨hp1, hp4⟩, hL4, hnn, hpp, hLL⟩ := po_ok hok
  refine r_skip (r_seq (r_region' ?_))
  refine l_q (q_load_agg (n := 3) Tryz.isAgg26 Tryz.sizeOf26 rfl ((hb1.cells' (cs' := [_, _, _]) 0 3 rfl)) rfl rfl) ?_
  refine l_q (q_move (v := .slice _ _ _) rfl rfl) ?_
  refine l_o (o_call Tryz.call43 rfl (made10_ret na nc nd pa pc pl ca cc L _ _ ws _ (hpo.below hB) hbg hok (hwd.below hB) hwn hwr) rfl ?_)
  have hszp6 : w.heap.size ≤ w2.heap.size := hsz
  rintro _ w6 ⟨oa6, oc6, L6, rfl, ho6, hos6, hI6, hE6⟩
  replace ho6 := own_mono ho6 (show w.heap.size ≤ _ by omega)
  replace hB := below_ext hB hE6 hsz
  replace hb1 := hb1.ext hE6
  replace hty_b1 := hty_b1.ext hE6
  replace hsz := Nat.le_trans hsz hE6.size
  have hI := hI6
  have hXs := isr_small hI hn5 hp4
  have hpx := plan_zero hok hI
  have hXn := isr_len hI
  refine l_q (q_assign (v := .slice _ _ _) rfl rfl) ?_
  refine l_nil (r_seq ?_)
  have hkw1 := Int.emod_nonneg wh (show (pl.length : Int) ≠ 0 by omega)
  have hkw2 := Int.emod_lt_of_pos wh (show (0 : Int) < pl.length by omega)
  have hww1 := Int.emod_nonneg wn (show (nd.length : Int) ≠ 0 by omega)
  have hww2 := Int.emod_lt_of_pos wn (show (0 : Int) < nd.length by omega)
  have hb0 : 0 ≤ bz % 3 := by omega
  refine r_region' ?_
  refine l_q (q_load_agg (n := 3) Tryz.isAgg26 Tryz.sizeOf26 rfl ((hb1.cells' (cs' := [_, _, _]) 0 3 rfl)) rfl rfl) ?_
  refine l_o (o_alloct Tryz.zeroValue26 rfl rfl ?_)
  intro b7 w7 hzl7 hzr7 _ hb7 hty_b7 hE7
  have hne_b1_b7 : b1 ≠ b7 := by have := hb1.lt; omega
  have hbs_b7 : w.heap.size ≤ b7 := Nat.le_trans hsz hzl7
  replace hB := below_ext hB hE7 hsz
  replace hb1 := hb1.ext hE7
  replace hty_b1 := hty_b1.ext hE7
  replace ho6 := own_ext ho6 hE7
  replace hos6 := hos6.ext hE7
  replace hsz := Nat.le_trans hsz hE7.size
  refine l_o (o_storet (vs := [.slice na nd.length nc, .slice pa pl.length pc, .slice ca L.length cc]) (cs' := [.slice na nd.length nc, .slice pa pl.length pc, .slice ca L.length cc]) Tryz.sizeOf26 rfl rfl rfl rfl hb7 (Nat.le_of_ble_eq_true rfl) rfl rfl ?_)
  intro w8 hz8 hb7 hT8 hG8
  replace hB := below_upd hB hG8 hsz (by omega)
  replace hsz : w.heap.size ≤ w8.heap.size := by rw [hz8]; exact hsz
  replace hb1 := hb1.upd hG8 (by omega)
  replace hty_b1 := hty_b1.upd hG8 (by omega)
  replace ho6 := own_ty_upd ho6 hty_b7 hG8 (by decide)
  replace hos6 := OwnsI.tyupd hos6 hty_b7 hG8 (by decide)
  replace hty_b7 := hT8 _ hty_b7
  refine l_nil ?_
  refine r_forget [(2, .int _ _), (3, .int _ _), (4, .int _ _), (5, .pointer _), (11, .slice _ _ _), (12, .pointer _)] ⟨rfl, rfl, rfl, rfl, rfl, rfl, trivial⟩ (fun e9 => ?_)
  refine r_seq ?_
  have hszR5 : w.heap.size ≤ w8.heap.size := hsz
  have hszW := Nat.le_refl w8.heap.size
  have hlt_ho6 := fun g hg => (ho6.lt g hg).2
  have hlt_hos6 := OwnsI.under hos6
  refine r_region' ?_
  refine l_q (q_fieldAddr (o' := 2) rfl fld26_2 rfl) ?_
  refine l_q (q_load Tryz.isAgg24 rfl ((hb1.has (o := 2) rfl)) rfl) ?_
  refine l_o (o_call Tryz.call21 rfl (rowsd10_ret _ _ L _ (hpo.rC.below hB) (hpo.rCr.below hB) hLl hLs) rfl ?_)
  have hszp10 : w.heap.size ≤ w8.heap.size := hsz
  have hbl_b1 := hb1.lt
  have hbl_b7 := hb7.lt
  rintro _ w10 ⟨oa10, oc10, L10, rfl, ho10, hos10, hm10, hd10, hE10⟩
  replace ho10 := own_mono ho10 (show w8.heap.size ≤ _ by omega)
  replace hB := below_ext hB hE10 hsz
  replace hb1 := hb1.ext hE10
  replace hty_b1 := hty_b1.ext hE10
  replace ho6 := own_ext ho6 hE10
  replace hos6 := hos6.ext hE10
  replace hb7 := hb7.ext hE10
  replace hty_b7 := hty_b7.ext hE10
  replace hszW := Nat.le_trans hszW hE10.size
  replace hsz := Nat.le_trans hsz hE10.size
  have hLNl10 : L10.length = L.length := by have := congrArg List.length hm10; rwa [List.length_map, List.length_map] at this
  refine l_q (q_fieldAddr (o' := 2) rfl fld26_2 rfl) ?_
  refine l_o (o_storet (vs := [.slice oa10 ((L10).length) oc10]) (cs' := [.slice na nd.length nc, .slice pa pl.length pc, .slice oa10 ((L10).length) oc10]) Tryz.sizeOf24 rfl rfl rfl rfl hb7 (Nat.le_of_ble_eq_true rfl) rfl rfl ?_)
  intro w11 hz11 hb7 hT11 hG11
  replace hB := below_upd hB hG11 hsz (by omega)
  replace hsz : w.heap.size ≤ w11.heap.size := by rw [hz11]; exact hsz
  replace hb1 := hb1.upd hG11 (by omega)
  replace hty_b1 := hty_b1.upd hG11 (by omega)
  replace ho6 := own_ty_upd ho6 hty_b7 hG11 (by decide)
  replace hos6 := OwnsI.tyupd hos6 hty_b7 hG11 (by decide)
  replace hszW := Nat.le_trans hszW hG11.size
  replace ho10 := own_ty_upd ho10 hty_b7 hG11 (by decide)
  replace hos10 := OwnsI.tyupd hos10 hty_b7 hG11 (by decide)
  replace hty_b7 := hT11 _ hty_b7
  refine l_nil (r_seq (r_region' ?_))
  refine l_q (q_move (v := .int _ _) rfl rfl) ?_
  refine l_q (q_toInt Tryz.underlying5 Tryz.underlying3 rfl (by omega) rfl) ?_
  refine l_q (q_fieldAddr (o' := 1) rfl fld26_1 rfl) ?_
  refine l_q (q_load Tryz.isAgg23 rfl ((hb1.has (o := 1) rfl)) rfl) ?_
  refine l_q (q_len rfl Tryz.underlying23 rfl rfl) ?_
  refine l_q (q_rem rfl rfl (by omega) rfl) ?_
  refine l_q (q_assign (v := .int _ _) rfl rfl) ?_
  refine l_nil ?_
  refine r_forget [(3, .int _ _), (4, .int _ _), (5, .pointer _), (11, .slice _ _ _), (12, .pointer _), (13, .int _ _)] ⟨rfl, rfl, rfl, rfl, rfl, rfl, trivial⟩ (fun e12 => ?_)
  refine r_seq (r_seq (r_region' ?_))
  refine l_q (q_assign (v := .int _ _) rfl rfl) ?_
  refine l_nil (r_block ?_)
  refine r_rounds (α := Nat × (List SV)) (fun ⟨c, M⟩ e wl => Knows e [(3, .int .u8 wn), (4, .int .u8 bz), (5, ptr b1 0), (11, .slice oa6 ((L6).length) oc6), (12, ptr b7 0), (13, vint (wh % (pl.length : Int))), (14, vint (c : Int))] ∧ (c ≤ L.length) ∧ (LatAt (wh % (pl.length : Int)).toNat (bz % 3) (nd.length : Int) c L M) ∧ (Dis M) ∧ (Blk wl b7 [.slice na nd.length nc, .slice pa pl.length pc, .slice oa10 ((L10).length) oc10]) ∧ (wl.ownsRow w8.heap.size 22 1 (.slice oa10 ((L10).length) oc10) ((L10).length) ((M).map SV.enc)) ∧ (OwnsI wl w8.heap.size 3 M) ∧ (Blk wl b1 [.slice na nd.length nc, .slice pa pl.length pc, .slice ca L.length cc]) ∧ (TyAt wl b1 26) ∧ (wl.ownsRow w.heap.size 22 1 (.slice oa6 ((L6).length) oc6) ((L6).length) ((L6).map SV.enc)) ∧ (OwnsI wl w2.heap.size 3 L6) ∧ (TyAt wl b7 26) ∧ (w8.heap.size ≤ wl.heap.size) ∧ (w.heap.size ≤ wl.heap.size) ∧ (Below w.heap.size w wl)) (fun ⟨c, M⟩ => L.length - c) (0, L10) ?_ ?_
  ·
   exact ⟨⟨rfl, rfl, rfl, rfl, rfl, rfl, rfl, trivial⟩, (Nat.zero_le _), (lat_zero hm10), hd10, hb7, ho10, hos10, hb1, hty_b1, ho6, hos6, hty_b7, hszW, hsz, hB⟩
  ·
   rintro ⟨c, M⟩ el13 wl13 ⟨hkn, hc, hM, hdM, hb7, hoC, hosC, hb1, hty_b1, ho6, hos6, hty_b7, hszW, hsz, hB⟩ ih13
   obtain ⟨e13, rfl⟩ := knows_env hkn
   refine r_seq (r_seq (r_region' ?_))
   refine l_q (q_move (v := .int _ _) rfl rfl) ?_
   refine l_q (q_fieldAddr (o' := 2) rfl fld26_2 rfl) ?_
   refine l_q (q_load Tryz.isAgg24 rfl ((hb7.has (o := 2) rfl)) rfl) ?_
   refine l_q (q_len rfl Tryz.underlying24 rfl rfl) ?_
   refine l_q (q_lss rfl rfl rfl) ?_
   refine l_nil ?_
   refine r_cond rfl (fun hc14 => ?_) (fun hc14 => ?_)
   ·
    replace hc14 := dt hc14
    have hcL : c < L.length := by omega
    have hMc : (M.getD c sv0).xs = (L.getD c sv0).xs := by rw [hM.2 c hcL, if_neg (Nat.lt_irrefl _)]
    have hrow := hLL _ (getD_lt (d := sv0) hcL)
    have hrl : (M.getD c sv0).xs.length = pl.length := by rw [hMc]; exact hrow.1
    have hel := hrow.2 _ (getD_lt (d := 0) (show (wh % (pl.length : Int)).toNat < (L.getD c sv0).xs.length by rw [hrow.1]; omega))
    rw [← hMc] at hel
    have hMl := hM.1
    refine r_skip (r_seq (r_block (r_seq (r_region' ?_))))
    refine l_q (q_fieldAddr (o' := 2) rfl fld26_2 rfl) ?_
    refine l_q (q_load Tryz.isAgg24 rfl ((hb7.has (o := 2) rfl)) rfl) ?_
    refine l_q (q_move (v := .int _ _) rfl rfl) ?_
    have hr16 := hosC.rows.get (i := c) (by omega)
    obtain ⟨b15, o15, ha15, hh15⟩ := (Row.of_owns hoC).at1 c ((M).getD c sv0) (getD_some (by omega))
    refine l_q (q_indexAddr1 Tryz.underlying24 Tryz.sizeOf22 rfl ha15 rfl (by omega) rfl) ?_
    refine l_q (q_load Tryz.isAgg22 rfl (hh15) rfl) ?_
    refine l_q (q_move (v := .int _ _) rfl rfl) ?_
    obtain ⟨b17, o17, ha17, hh17⟩ := hr16.at1 (wh % (pl.length : Int)).toNat ((((M).getD c sv0).xs).getD (wh % (pl.length : Int)).toNat 0) (getD_some (by omega))
    refine l_q (q_indexAddr1 Tryz.underlying22 Tryz.sizeOf3 rfl ha17 rfl (by omega) rfl) ?_
    refine l_q (q_load Tryz.isAgg3 rfl (hh17) rfl) ?_
    refine l_q (q_assign (v := .int _ _) rfl rfl) ?_
    refine l_nil ?_
    refine r_forget [(3, .int _ _), (4, .int _ _), (5, .pointer _), (11, .slice _ _ _), (12, .pointer _), (13, .int _ _), (14, .int _ _), (15, .int _ _)] ⟨rfl, rfl, rfl, rfl, rfl, rfl, rfl, rfl, trivial⟩ (fun e18 => ?_)
    refine r_seq (r_seq (r_region' ?_))
    refine l_q (q_move (v := .int _ _) rfl rfl) ?_
    refine l_q (q_geq rfl rfl rfl) ?_
    refine l_nil ?_
    refine r_cond rfl (fun hc19 => ?_) (fun hc19 => ?_)
    ·
     replace hc19 := dt hc19
     refine r_region' ?_
     refine l_q (q_move (v := .int _ _) rfl rfl) ?_
     refine l_q (q_move (v := .int _ _) rfl rfl) ?_
     refine l_q (q_toInt Tryz.underlying5 Tryz.underlying3 rfl (by omega) rfl) ?_
     refine l_q (q_rem rfl rfl (by omega) rfl) ?_
     refine l_q (q_add rfl rfl (by omega) rfl) ?_
     refine l_q (q_assign (v := .int _ _) rfl rfl) ?_
     refine l_nil (r_seq (r_seq (r_region' ?_)))
     refine l_q (q_move (v := .int _ _) rfl rfl) ?_
     refine l_q (q_fieldAddr (o' := 0) rfl fld26_0 rfl) ?_
     refine l_q (q_load Tryz.isAgg22 rfl ((hb1.has (o := 0) rfl)) rfl) ?_
     refine l_q (q_len rfl Tryz.underlying22 rfl rfl) ?_
     refine l_q (q_geq rfl rfl rfl) ?_
     refine l_nil ?_
     refine r_forget [(3, .int _ _), (4, .int _ _), (5, .pointer _), (11, .slice _ _ _), (12, .pointer _), (13, .int _ _), (14, .int _ _), (15, .int _ _), (70, .bool _)] ⟨rfl, rfl, rfl, rfl, rfl, rfl, rfl, rfl, rfl, trivial⟩ (fun e20 => ?_)
     refine r_cond rfl (fun hc21 => ?_) (fun hc21 => ?_)
     ·
      replace hc21 := dt hc21
      refine r_region' ?_
      refine l_q (q_assign (v := .int _ _) rfl rfl) ?_
      refine l_nil (r_region' ?_)
      refine l_q (q_fieldAddr (o' := 2) rfl fld26_2 rfl) ?_
      refine l_q (q_load Tryz.isAgg24 rfl ((hb7.has (o := 2) rfl)) rfl) ?_
      refine l_q (q_move (v := .int _ _) rfl rfl) ?_
      have hr23 := hosC.rows.get (i := c) (by omega)
      obtain ⟨b22, o22, ha22, hh22⟩ := (Row.of_owns hoC).at1 c ((M).getD c sv0) (getD_some (by omega))
      refine l_q (q_indexAddr1 Tryz.underlying24 Tryz.sizeOf22 rfl ha22 rfl (by omega) rfl) ?_
      refine l_q (q_load Tryz.isAgg22 rfl (hh22) rfl) ?_
      refine l_q (q_move (v := .int _ _) rfl rfl) ?_
      refine l_q (q_move (v := .int _ _) rfl rfl) ?_
      obtain ⟨b24, o24, ha24, hh24⟩ := hr23.at1 (wh % (pl.length : Int)).toNat ((((M).getD c sv0).xs).getD (wh % (pl.length : Int)).toNat 0) (getD_some (by omega))
      refine l_q (q_indexAddr1 Tryz.underlying22 Tryz.sizeOf3 rfl ha24 rfl (by omega) rfl) ?_
      have hown := hosC (M.getD c sv0) (getD_lt (d := sv0) (show c < M.length by omega))
      refine l_o (o_store_own (f := vint) ((M.getD c sv0).xs) (wh % (pl.length : Int)).toNat (-1) Tryz.sizeOf3 rfl ha24 rfl rfl (fun _ => rfl) hown (by omega) rfl ?_)
      intro w25 hz25 ho25 hG25
      have hs9 : w25.ownsRow w8.heap.size 3 1 (.slice (M.getD c sv0).a (((M.getD c sv0).xs).set (wh % (pl.length : Int)).toNat (-1)).length (M.getD c sv0).c) (((M.getD c sv0).xs).set (wh % (pl.length : Int)).toNat (-1)).length ((((M.getD c sv0).xs).set (wh % (pl.length : Int)).toNat (-1)).map vint) := by rw [List.length_set]; exact ho25
      have hosN : OwnsI w25 w8.heap.size 3 (M.set c (⟨(M.getD c sv0).a, (M.getD c sv0).c, ((M.getD c sv0).xs).set (wh % (pl.length : Int)).toNat (-1)⟩ : SV)) := OwnsI.set hosC hdM (by omega) hG25 hs9
      have hdN : Dis (M.set c (⟨(M.getD c sv0).a, (M.getD c sv0).c, ((M.getD c sv0).xs).set (wh % (pl.length : Int)).toNat (-1)⟩ : SV)) := Dis.set hdM (ob_len _ _ _ _)
      have hv9 : ((-1) : Int) = ltv (bz % 3) (nd.length : Int) ((M.getD c sv0).xs.getD (wh % (pl.length : Int)).toNat 0) := by first | exact (ltv_1 (by omega) (by omega)).symm | exact (ltv_2 (by omega) (by omega)).symm | exact (ltv_3 (by omega) (by omega)).symm | (exfalso; omega)
      have hMn : LatAt (wh % (pl.length : Int)).toNat (bz % 3) (nd.length : Int) (c + 1) L (M.set c (⟨(M.getD c sv0).a, (M.getD c sv0).c, ((M.getD c sv0).xs).set (wh % (pl.length : Int)).toNat (-1)⟩ : SV)) := lat_step hM hcL (by show List.set _ _ _ = latL _ _ _ _; unfold latL; rw [← hv9])
      replace hB := below_own hB hG25 hown (by omega) hsz
      replace hsz := Nat.le_trans hsz hG25.size
      replace hb1 := hb1.step hG25 (own_ty_ne hown hty_b1 (by decide))
      replace ho6 := own_kept ho6 hown (by decide) hG25
      replace hos6 := OwnsI.apart hos6 hlt_hos6 hown hG25
      replace hb7 := hb7.step hG25 (own_ty_ne hown hty_b7 (by decide))
      replace hszW := Nat.le_trans hszW hG25.size
      replace hoC := own_kept hoC hown (by decide) hG25
      replace hty_b1 := TyAt.own hty_b1 hown hG25 (by decide)
      replace hty_b7 := TyAt.own hty_b7 hown hG25 (by decide)
      rw [← set_enc (s := (⟨(M.getD c sv0).a, (M.getD c sv0).c, ((M.getD c sv0).xs).set (wh % (pl.length : Int)).toNat (-1)⟩ : SV)) (by omega) (enc_len _ _ _ _)] at hoC
      refine l_nil ?_
      refine r_forget [(3, .int _ _), (4, .int _ _), (5, .pointer _), (11, .slice _ _ _), (12, .pointer _), (13, .int _ _), (14, .int _ _)] ⟨rfl, rfl, rfl, rfl, rfl, rfl, rfl, trivial⟩ (fun e26 => ?_)
      refine r_inBlock (r_region' ?_)
      refine l_q (q_move (v := .int _ _) rfl rfl) ?_
      refine l_q (q_add rfl rfl (by omega) rfl) ?_
      refine l_q (q_assign (v := .int _ _) rfl rfl) ?_
      refine l_nil ?_
      exact ih13 (c + 1, M.set c (⟨(M.getD c sv0).a, (M.getD c sv0).c, ((M.getD c sv0).xs).set (wh % (pl.length : Int)).toNat (-1)⟩ : SV)) _ _ ⟨⟨rfl, rfl, rfl, rfl, rfl, rfl, (vint_eq (by omega)), trivial⟩, (by omega), hMn, hdN, hb7, hoC, hosN, hb1, hty_b1, ho6, hos6, hty_b7, hszW, hsz, hB⟩ (by first | omega | (dsimp only; omega))
     ·
      replace hc21 := dle hc21
      refine r_skip (r_region' ?_)
      refine l_q (q_fieldAddr (o' := 2) rfl fld26_2 rfl) ?_
      refine l_q (q_load Tryz.isAgg24 rfl ((hb7.has (o := 2) rfl)) rfl) ?_
      refine l_q (q_move (v := .int _ _) rfl rfl) ?_
      have hr28 := hosC.rows.get (i := c) (by omega)
      obtain ⟨b27, o27, ha27, hh27⟩ := (Row.of_owns hoC).at1 c ((M).getD c sv0) (getD_some (by omega))
      refine l_q (q_indexAddr1 Tryz.underlying24 Tryz.sizeOf22 rfl ha27 rfl (by omega) rfl) ?_
      refine l_q (q_load Tryz.isAgg22 rfl (hh27) rfl) ?_
      refine l_q (q_move (v := .int _ _) rfl rfl) ?_
      refine l_q (q_move (v := .int _ _) rfl rfl) ?_
      obtain ⟨b29, o29, ha29, hh29⟩ := hr28.at1 (wh % (pl.length : Int)).toNat ((((M).getD c sv0).xs).getD (wh % (pl.length : Int)).toNat 0) (getD_some (by omega))
      refine l_q (q_indexAddr1 Tryz.underlying22 Tryz.sizeOf3 rfl ha29 rfl (by omega) rfl) ?_
      have hown := hosC (M.getD c sv0) (getD_lt (d := sv0) (show c < M.length by omega))
      refine l_o (o_store_own (f := vint) ((M.getD c sv0).xs) (wh % (pl.length : Int)).toNat (((((M).getD c sv0).xs).getD (wh % (pl.length : Int)).toNat 0) + (bz % 3)) Tryz.sizeOf3 rfl ha29 rfl rfl (fun _ => rfl) hown (by omega) rfl ?_)
      intro w30 hz30 ho30 hG30
      have hs9 : w30.ownsRow w8.heap.size 3 1 (.slice (M.getD c sv0).a (((M.getD c sv0).xs).set (wh % (pl.length : Int)).toNat (((((M).getD c sv0).xs).getD (wh % (pl.length : Int)).toNat 0) + (bz % 3))).length (M.getD c sv0).c) (((M.getD c sv0).xs).set (wh % (pl.length : Int)).toNat (((((M).getD c sv0).xs).getD (wh % (pl.length : Int)).toNat 0) + (bz % 3))).length ((((M.getD c sv0).xs).set (wh % (pl.length : Int)).toNat (((((M).getD c sv0).xs).getD (wh % (pl.length : Int)).toNat 0) + (bz % 3))).map vint) := by rw [List.length_set]; exact ho30
      have hosN : OwnsI w30 w8.heap.size 3 (M.set c (⟨(M.getD c sv0).a, (M.getD c sv0).c, ((M.getD c sv0).xs).set (wh % (pl.length : Int)).toNat (((((M).getD c sv0).xs).getD (wh % (pl.length : Int)).toNat 0) + (bz % 3))⟩ : SV)) := OwnsI.set hosC hdM (by omega) hG30 hs9
      have hdN : Dis (M.set c (⟨(M.getD c sv0).a, (M.getD c sv0).c, ((M.getD c sv0).xs).set (wh % (pl.length : Int)).toNat (((((M).getD c sv0).xs).getD (wh % (pl.length : Int)).toNat 0) + (bz % 3))⟩ : SV)) := Dis.set hdM (ob_len _ _ _ _)
      have hv9 : (((((M).getD c sv0).xs).getD (wh % (pl.length : Int)).toNat 0) + (bz % 3) : Int) = ltv (bz % 3) (nd.length : Int) ((M.getD c sv0).xs.getD (wh % (pl.length : Int)).toNat 0) := by first | exact (ltv_1 (by omega) (by omega)).symm | exact (ltv_2 (by omega) (by omega)).symm | exact (ltv_3 (by omega) (by omega)).symm | (exfalso; omega)
      have hMn : LatAt (wh % (pl.length : Int)).toNat (bz % 3) (nd.length : Int) (c + 1) L (M.set c (⟨(M.getD c sv0).a, (M.getD c sv0).c, ((M.getD c sv0).xs).set (wh % (pl.length : Int)).toNat (((((M).getD c sv0).xs).getD (wh % (pl.length : Int)).toNat 0) + (bz % 3))⟩ : SV)) := lat_step hM hcL (by show List.set _ _ _ = latL _ _ _ _; unfold latL; rw [← hv9])
      replace hB := below_own hB hG30 hown (by omega) hsz
      replace hsz := Nat.le_trans hsz hG30.size
      replace hb1 := hb1.step hG30 (own_ty_ne hown hty_b1 (by decide))
      replace ho6 := own_kept ho6 hown (by decide) hG30
      replace hos6 := OwnsI.apart hos6 hlt_hos6 hown hG30
      replace hb7 := hb7.step hG30 (own_ty_ne hown hty_b7 (by decide))
      replace hszW := Nat.le_trans hszW hG30.size
      replace hoC := own_kept hoC hown (by decide) hG30
      replace hty_b1 := TyAt.own hty_b1 hown hG30 (by decide)
      replace hty_b7 := TyAt.own hty_b7 hown hG30 (by decide)
      rw [← set_enc (s := (⟨(M.getD c sv0).a, (M.getD c sv0).c, ((M.getD c sv0).xs).set (wh % (pl.length : Int)).toNat (((((M).getD c sv0).xs).getD (wh % (pl.length : Int)).toNat 0) + (bz % 3))⟩ : SV)) (by omega) (enc_len _ _ _ _)] at hoC
      refine l_nil ?_
      refine r_forget [(3, .int _ _), (4, .int _ _), (5, .pointer _), (11, .slice _ _ _), (12, .pointer _), (13, .int _ _), (14, .int _ _)] ⟨rfl, rfl, rfl, rfl, rfl, rfl, rfl, trivial⟩ (fun e31 => ?_)
      refine r_inBlock (r_region' ?_)
      refine l_q (q_move (v := .int _ _) rfl rfl) ?_
      refine l_q (q_add rfl rfl (by omega) rfl) ?_
      refine l_q (q_assign (v := .int _ _) rfl rfl) ?_
      refine l_nil ?_
      exact ih13 (c + 1, M.set c (⟨(M.getD c sv0).a, (M.getD c sv0).c, ((M.getD c sv0).xs).set (wh % (pl.length : Int)).toNat (((((M).getD c sv0).xs).getD (wh % (pl.length : Int)).toNat 0) + (bz % 3))⟩ : SV)) _ _ ⟨⟨rfl, rfl, rfl, rfl, rfl, rfl, (vint_eq (by omega)), trivial⟩, (by omega), hMn, hdN, hb7, hoC, hosN, hb1, hty_b1, ho6, hos6, hty_b7, hszW, hsz, hB⟩ (by first | omega | (dsimp only; omega))
    ·
     replace hc19 := dle hc19
     refine r_skip (r_seq (r_seq (r_region' ?_)))
     refine l_q (q_move (v := .int _ _) rfl rfl) ?_
     refine l_q (q_fieldAddr (o' := 0) rfl fld26_0 rfl) ?_
     refine l_q (q_load Tryz.isAgg22 rfl ((hb1.has (o := 0) rfl)) rfl) ?_
     refine l_q (q_len rfl Tryz.underlying22 rfl rfl) ?_
     refine l_q (q_geq rfl rfl rfl) ?_
     refine l_nil ?_
     refine r_cond rfl (fun hc32 => ?_) (fun hc32 => ?_)
     ·
      replace hc32 := dt hc32
      refine r_region' ?_
      refine l_q (q_assign (v := .int _ _) rfl rfl) ?_
      refine l_nil (r_region' ?_)
      refine l_q (q_fieldAddr (o' := 2) rfl fld26_2 rfl) ?_
      refine l_q (q_load Tryz.isAgg24 rfl ((hb7.has (o := 2) rfl)) rfl) ?_
      refine l_q (q_move (v := .int _ _) rfl rfl) ?_
      have hr34 := hosC.rows.get (i := c) (by omega)
      obtain ⟨b33, o33, ha33, hh33⟩ := (Row.of_owns hoC).at1 c ((M).getD c sv0) (getD_some (by omega))
      refine l_q (q_indexAddr1 Tryz.underlying24 Tryz.sizeOf22 rfl ha33 rfl (by omega) rfl) ?_
      refine l_q (q_load Tryz.isAgg22 rfl (hh33) rfl) ?_
      refine l_q (q_move (v := .int _ _) rfl rfl) ?_
      refine l_q (q_move (v := .int _ _) rfl rfl) ?_
      obtain ⟨b35, o35, ha35, hh35⟩ := hr34.at1 (wh % (pl.length : Int)).toNat ((((M).getD c sv0).xs).getD (wh % (pl.length : Int)).toNat 0) (getD_some (by omega))
      refine l_q (q_indexAddr1 Tryz.underlying22 Tryz.sizeOf3 rfl ha35 rfl (by omega) rfl) ?_
      have hown := hosC (M.getD c sv0) (getD_lt (d := sv0) (show c < M.length by omega))
      refine l_o (o_store_own (f := vint) ((M.getD c sv0).xs) (wh % (pl.length : Int)).toNat (-1) Tryz.sizeOf3 rfl ha35 rfl rfl (fun _ => rfl) hown (by omega) rfl ?_)
      intro w36 hz36 ho36 hG36
      have hs9 : w36.ownsRow w8.heap.size 3 1 (.slice (M.getD c sv0).a (((M.getD c sv0).xs).set (wh % (pl.length : Int)).toNat (-1)).length (M.getD c sv0).c) (((M.getD c sv0).xs).set (wh % (pl.length : Int)).toNat (-1)).length ((((M.getD c sv0).xs).set (wh % (pl.length : Int)).toNat (-1)).map vint) := by rw [List.length_set]; exact ho36
      have hosN : OwnsI w36 w8.heap.size 3 (M.set c (⟨(M.getD c sv0).a, (M.getD c sv0).c, ((M.getD c sv0).xs).set (wh % (pl.length : Int)).toNat (-1)⟩ : SV)) := OwnsI.set hosC hdM (by omega) hG36 hs9
      have hdN : Dis (M.set c (⟨(M.getD c sv0).a, (M.getD c sv0).c, ((M.getD c sv0).xs).set (wh % (pl.length : Int)).toNat (-1)⟩ : SV)) := Dis.set hdM (ob_len _ _ _ _)
      have hv9 : ((-1) : Int) = ltv (bz % 3) (nd.length : Int) ((M.getD c sv0).xs.getD (wh % (pl.length : Int)).toNat 0) := by first | exact (ltv_1 (by omega) (by omega)).symm | exact (ltv_2 (by omega) (by omega)).symm | exact (ltv_3 (by omega) (by omega)).symm | (exfalso; omega)
      have hMn : LatAt (wh % (pl.length : Int)).toNat (bz % 3) (nd.length : Int) (c + 1) L (M.set c (⟨(M.getD c sv0).a, (M.getD c sv0).c, ((M.getD c sv0).xs).set (wh % (pl.length : Int)).toNat (-1)⟩ : SV)) := lat_step hM hcL (by show List.set _ _ _ = latL _ _ _ _; unfold latL; rw [← hv9])
      replace hB := below_own hB hG36 hown (by omega) hsz
      replace hsz := Nat.le_trans hsz hG36.size
      replace hb1 := hb1.step hG36 (own_ty_ne hown hty_b1 (by decide))
      replace ho6 := own_kept ho6 hown (by decide) hG36
      replace hos6 := OwnsI.apart hos6 hlt_hos6 hown hG36
      replace hb7 := hb7.step hG36 (own_ty_ne hown hty_b7 (by decide))
      replace hszW := Nat.le_trans hszW hG36.size
      replace hoC := own_kept hoC hown (by decide) hG36
      replace hty_b1 := TyAt.own hty_b1 hown hG36 (by decide)
      replace hty_b7 := TyAt.own hty_b7 hown hG36 (by decide)
      rw [← set_enc (s := (⟨(M.getD c sv0).a, (M.getD c sv0).c, ((M.getD c sv0).xs).set (wh % (pl.length : Int)).toNat (-1)⟩ : SV)) (by omega) (enc_len _ _ _ _)] at hoC
      refine l_nil ?_
      refine r_forget [(3, .int _ _), (4, .int _ _), (5, .pointer _), (11, .slice _ _ _), (12, .pointer _), (13, .int _ _), (14, .int _ _)] ⟨rfl, rfl, rfl, rfl, rfl, rfl, rfl, trivial⟩ (fun e37 => ?_)
      refine r_inBlock (r_region' ?_)
      refine l_q (q_move (v := .int _ _) rfl rfl) ?_
      refine l_q (q_add rfl rfl (by omega) rfl) ?_
      refine l_q (q_assign (v := .int _ _) rfl rfl) ?_
      refine l_nil ?_
      exact ih13 (c + 1, M.set c (⟨(M.getD c sv0).a, (M.getD c sv0).c, ((M.getD c sv0).xs).set (wh % (pl.length : Int)).toNat (-1)⟩ : SV)) _ _ ⟨⟨rfl, rfl, rfl, rfl, rfl, rfl, (vint_eq (by omega)), trivial⟩, (by omega), hMn, hdN, hb7, hoC, hosN, hb1, hty_b1, ho6, hos6, hty_b7, hszW, hsz, hB⟩ (by first | omega | (dsimp only; omega))
     ·
      replace hc32 := dle hc32
      refine r_skip (r_region' ?_)
      refine l_q (q_fieldAddr (o' := 2) rfl fld26_2 rfl) ?_
      refine l_q (q_load Tryz.isAgg24 rfl ((hb7.has (o := 2) rfl)) rfl) ?_
      refine l_q (q_move (v := .int _ _) rfl rfl) ?_
      have hr39 := hosC.rows.get (i := c) (by omega)
      obtain ⟨b38, o38, ha38, hh38⟩ := (Row.of_owns hoC).at1 c ((M).getD c sv0) (getD_some (by omega))
      refine l_q (q_indexAddr1 Tryz.underlying24 Tryz.sizeOf22 rfl ha38 rfl (by omega) rfl) ?_
      refine l_q (q_load Tryz.isAgg22 rfl (hh38) rfl) ?_
      refine l_q (q_move (v := .int _ _) rfl rfl) ?_
      refine l_q (q_move (v := .int _ _) rfl rfl) ?_
      obtain ⟨b40, o40, ha40, hh40⟩ := hr39.at1 (wh % (pl.length : Int)).toNat ((((M).getD c sv0).xs).getD (wh % (pl.length : Int)).toNat 0) (getD_some (by omega))
      refine l_q (q_indexAddr1 Tryz.underlying22 Tryz.sizeOf3 rfl ha40 rfl (by omega) rfl) ?_
      have hown := hosC (M.getD c sv0) (getD_lt (d := sv0) (show c < M.length by omega))
      refine l_o (o_store_own (f := vint) ((M.getD c sv0).xs) (wh % (pl.length : Int)).toNat ((((M).getD c sv0).xs).getD (wh % (pl.length : Int)).toNat 0) Tryz.sizeOf3 rfl ha40 rfl rfl (fun _ => rfl) hown (by omega) rfl ?_)
      intro w41 hz41 ho41 hG41
      have hs9 : w41.ownsRow w8.heap.size 3 1 (.slice (M.getD c sv0).a (((M.getD c sv0).xs).set (wh % (pl.length : Int)).toNat ((((M).getD c sv0).xs).getD (wh % (pl.length : Int)).toNat 0)).length (M.getD c sv0).c) (((M.getD c sv0).xs).set (wh % (pl.length : Int)).toNat ((((M).getD c sv0).xs).getD (wh % (pl.length : Int)).toNat 0)).length ((((M.getD c sv0).xs).set (wh % (pl.length : Int)).toNat ((((M).getD c sv0).xs).getD (wh % (pl.length : Int)).toNat 0)).map vint) := by rw [List.length_set]; exact ho41
      have hosN : OwnsI w41 w8.heap.size 3 (M.set c (⟨(M.getD c sv0).a, (M.getD c sv0).c, ((M.getD c sv0).xs).set (wh % (pl.length : Int)).toNat ((((M).getD c sv0).xs).getD (wh % (pl.length : Int)).toNat 0)⟩ : SV)) := OwnsI.set hosC hdM (by omega) hG41 hs9
      have hdN : Dis (M.set c (⟨(M.getD c sv0).a, (M.getD c sv0).c, ((M.getD c sv0).xs).set (wh % (pl.length : Int)).toNat ((((M).getD c sv0).xs).getD (wh % (pl.length : Int)).toNat 0)⟩ : SV)) := Dis.set hdM (ob_len _ _ _ _)
      have hv9 : ((((M).getD c sv0).xs).getD (wh % (pl.length : Int)).toNat 0 : Int) = ltv (bz % 3) (nd.length : Int) ((M.getD c sv0).xs.getD (wh % (pl.length : Int)).toNat 0) := by first | exact (ltv_1 (by omega) (by omega)).symm | exact (ltv_2 (by omega) (by omega)).symm | exact (ltv_3 (by omega) (by omega)).symm | (exfalso; omega)
      have hMn : LatAt (wh % (pl.length : Int)).toNat (bz % 3) (nd.length : Int) (c + 1) L (M.set c (⟨(M.getD c sv0).a, (M.getD c sv0).c, ((M.getD c sv0).xs).set (wh % (pl.length : Int)).toNat ((((M).getD c sv0).xs).getD (wh % (pl.length : Int)).toNat 0)⟩ : SV)) := lat_step hM hcL (by show List.set _ _ _ = latL _ _ _ _; unfold latL; rw [← hv9])
      replace hB := below_own hB hG41 hown (by omega) hsz
      replace hsz := Nat.le_trans hsz hG41.size
      replace hb1 := hb1.step hG41 (own_ty_ne hown hty_b1 (by decide))
      replace ho6 := own_kept ho6 hown (by decide) hG41
      replace hos6 := OwnsI.apart hos6 hlt_hos6 hown hG41
      replace hb7 := hb7.step hG41 (own_ty_ne hown hty_b7 (by decide))
      replace hszW := Nat.le_trans hszW hG41.size
      replace hoC := own_kept hoC hown (by decide) hG41
      replace hty_b1 := TyAt.own hty_b1 hown hG41 (by decide)
      replace hty_b7 := TyAt.own hty_b7 hown hG41 (by decide)
      rw [← set_enc (s := (⟨(M.getD c sv0).a, (M.getD c sv0).c, ((M.getD c sv0).xs).set (wh % (pl.length : Int)).toNat ((((M).getD c sv0).xs).getD (wh % (pl.length : Int)).toNat 0)⟩ : SV)) (by omega) (enc_len _ _ _ _)] at hoC
      refine l_nil ?_
      refine r_forget [(3, .int _ _), (4, .int _ _), (5, .pointer _), (11, .slice _ _ _), (12, .pointer _), (13, .int _ _), (14, .int _ _)] ⟨rfl, rfl, rfl, rfl, rfl, rfl, rfl, trivial⟩ (fun e42 => ?_)
      refine r_inBlock (r_region' ?_)
      refine l_q (q_move (v := .int _ _) rfl rfl) ?_
      refine l_q (q_add rfl rfl (by omega) rfl) ?_
      refine l_q (q_assign (v := .int _ _) rfl rfl) ?_
      refine l_nil ?_
      exact ih13 (c + 1, M.set c (⟨(M.getD c sv0).a, (M.getD c sv0).c, ((M.getD c sv0).xs).set (wh % (pl.length : Int)).toNat ((((M).getD c sv0).xs).getD (wh % (pl.length : Int)).toNat 0)⟩ : SV)) _ _ ⟨⟨rfl, rfl, rfl, rfl, rfl, rfl, (vint_eq (by omega)), trivial⟩, (by omega), hMn, hdN, hb7, hoC, hosN, hb1, hty_b1, ho6, hos6, hty_b7, hszW, hsz, hB⟩ (by first | omega | (dsimp only; omega))
   ·
    replace hc14 := dlt hc14
    refine r_exit rfl ?_
    refine r_seq ?_
    obtain rfl : c = L.length := by omega
    have hML : L10.length = M.length := by rw [hLNl10]; exact hM.1.symm
    rw [hML] at hb7 hoC
    have hxf := lat_fault hok hb0 hM
    have hbgx := lat_big hM hbg
    have hpy := plan_zero hxf hI
    refine r_region' ?_
    refine l_q (q_load_agg (n := 3) Tryz.isAgg26 Tryz.sizeOf26 rfl ((hb1.cells' (cs' := [_, _, _]) 0 3 rfl)) rfl rfl) ?_
    refine l_o (o_call Tryz.call19 rfl (post10_ret na nc nd pa pc pl ca cc L _ (hpo.below hB) hbg) rfl ?_)
    rintro _ w43 ⟨pna43, pnc43, ppa43, ppc43, ppl43, pca43, pcc43, pL43, rfl, hpo43, hpp43, hpL43, hE43⟩
    replace hB := below_ext hB hE43 hsz
    replace hb1 := hb1.ext hE43
    replace ho6 := own_ext ho6 hE43
    replace hos6 := hos6.ext hE43
    replace hb7 := hb7.ext hE43
    replace hoC := own_ext hoC hE43
    replace hosC := hosC.ext hE43
    replace hsz := Nat.le_trans hsz hE43.size
    have hbg43 := post_big hpp43 hpL43 hbg
    refine l_q (q_move (v := .slice _ _ _) rfl rfl) ?_
    refine l_o (o_call Tryz.call21 rfl (rows10_ret _ _ L6 _ (Row.of_owns ho6) hos6.rows hXs.1 hXs.2) rfl ?_)
    have hszp44 : w.heap.size ≤ w43.heap.size := hsz
    rintro _ w44 ⟨oa44, oc44, L44, rfl, ho44, hos44, hm44, hE44⟩
    replace ho44 := own_mono ho44 (show w.heap.size ≤ _ by omega)
    replace hB := below_ext hB hE44 hsz
    replace hb1 := hb1.ext hE44
    replace ho6 := own_ext ho6 hE44
    replace hos6 := hos6.ext hE44
    replace hb7 := hb7.ext hE44
    replace hoC := own_ext hoC hE44
    replace hosC := hosC.ext hE44
    replace hpo43 := hpo43.ext hE44
    replace hsz := Nat.le_trans hsz hE44.size
    obtain ⟨FA, hFA⟩ : ∃ F, failsX nd (planP (po nd pl L) (L6.map (·.xs))) (L6.map (·.xs)) (L.map (·.xs)) = F := ⟨_, rfl⟩
    refine l_o (o_call Tryz.call25 rfl ((by have h := Fails_ret pna43 pnc43 nd ppa43 ppc43 ppl43 pca43 pcc43 pL43 _ _ L44 _ hpo43 hbg43.1 hbg43.2.1 hbg43.2.2.1 hbg43.2.2.2.1 (Row.of_owns ho44) hos44.rows (rows_same hm44 hXs.1 hXs.2).1 (rows_same hm44 hXs.1 hXs.2).2; rw [fails_eq (hpo43).rCr, po_pn hpp43 hpL43, hpL43, hm44] at h; rw [hFA] at h; exact h)) rfl ?_)
    rintro _ w45 ⟨fa45, fc45, rfl, hf45, hE45⟩
    replace hB := below_ext hB hE45 hsz
    replace hb1 := hb1.ext hE45
    replace ho6 := own_ext ho6 hE45
    replace hos6 := hos6.ext hE45
    replace hb7 := hb7.ext hE45
    replace hoC := own_ext hoC hE45
    replace hosC := hosC.ext hE45
    replace hsz := Nat.le_trans hsz hE45.size
    refine l_q (q_move (v := .tuple _) rfl rfl) ?_
    refine l_q (q_extract (vs := [_, _]) (v := .slice _ _ _) rfl rfl rfl) ?_
    refine l_q (q_extract (vs := [_, _]) (v := .int _ _) rfl rfl rfl) ?_
    refine l_q (q_assign (v := .slice _ _ _) rfl rfl) ?_
    refine l_q (q_assign (v := .int _ _) rfl rfl) ?_
    refine l_nil ?_
    refine r_forget [(3, .int _ _), (5, .pointer _), (11, .slice _ _ _), (12, .pointer _), (13, .int _ _), (16, .slice _ _ _), (17, .int _ _)] ⟨rfl, rfl, rfl, rfl, rfl, rfl, rfl, trivial⟩ (fun e46 => ?_)
    refine r_seq (r_region' ?_)
    refine l_q (q_load_agg (n := 3) Tryz.isAgg26 Tryz.sizeOf26 rfl ((hb7.cells' (cs' := [_, _, _]) 0 3 rfl)) rfl rfl) ?_
    refine l_o (o_call Tryz.call19 rfl (post10_ret na nc nd pa pc pl oa10 oc10 M _ ⟨(hpo.rnd.below hB), (hpo.rpl.below hB), (hpo.rplr.below hB), (Row.of_owns hoC), hosC.rows⟩ hbgx) rfl ?_)
    rintro _ w47 ⟨pna47, pnc47, ppa47, ppc47, ppl47, pca47, pcc47, pL47, rfl, hpo47, hpp47, hpL47, hE47⟩
    replace hB := below_ext hB hE47 hsz
    replace hb1 := hb1.ext hE47
    replace ho6 := own_ext ho6 hE47
    replace hos6 := hos6.ext hE47
    replace hb7 := hb7.ext hE47
    replace hf45 := hf45.ext hE47
    replace hsz := Nat.le_trans hsz hE47.size
    have hbg47 := post_big hpp47 hpL47 hbgx
    refine l_q (q_move (v := .slice _ _ _) rfl rfl) ?_
    refine l_o (o_call Tryz.call21 rfl (rows10_ret _ _ L6 _ (Row.of_owns ho6) hos6.rows hXs.1 hXs.2) rfl ?_)
    have hszp48 : w.heap.size ≤ w47.heap.size := hsz
    rintro _ w48 ⟨oa48, oc48, L48, rfl, ho48, hos48, hm48, hE48⟩
    replace ho48 := own_mono ho48 (show w.heap.size ≤ _ by omega)
    replace hB := below_ext hB hE48 hsz
    replace hb1 := hb1.ext hE48
    replace ho6 := own_ext ho6 hE48
    replace hos6 := hos6.ext hE48
    replace hb7 := hb7.ext hE48
    replace hf45 := hf45.ext hE48
    replace hpo47 := hpo47.ext hE48
    replace hsz := Nat.le_trans hsz hE48.size
    obtain ⟨FB, hFB⟩ : ∃ F, failsX nd (planP (po nd pl M) (L6.map (·.xs))) (L6.map (·.xs)) (M.map (·.xs)) = F := ⟨_, rfl⟩
    refine l_o (o_call Tryz.call25 rfl ((by have h := Fails_ret pna47 pnc47 nd ppa47 ppc47 ppl47 pca47 pcc47 pL47 _ _ L48 _ hpo47 hbg47.1 hbg47.2.1 hbg47.2.2.1 hbg47.2.2.2.1 (Row.of_owns ho48) hos48.rows (rows_same hm48 hXs.1 hXs.2).1 (rows_same hm48 hXs.1 hXs.2).2; rw [fails_eq (hpo47).rCr, po_pn hpp47 hpL47, hpL47, hm48] at h; rw [hFB] at h; exact h)) rfl ?_)
    rintro _ w49 ⟨fa49, fc49, rfl, hf49, hE49⟩
    replace hB := below_ext hB hE49 hsz
    replace hb1 := hb1.ext hE49
    replace ho6 := own_ext ho6 hE49
    replace hos6 := hos6.ext hE49
    replace hb7 := hb7.ext hE49
    replace hf45 := hf45.ext hE49
    replace hsz := Nat.le_trans hsz hE49.size
    refine l_q (q_move (v := .tuple _) rfl rfl) ?_
    refine l_q (q_extract (vs := [_, _]) (v := .slice _ _ _) rfl rfl rfl) ?_
    refine l_q (q_extract (vs := [_, _]) (v := .int _ _) rfl rfl rfl) ?_
    refine l_q (q_assign (v := .slice _ _ _) rfl rfl) ?_
    refine l_q (q_assign (v := .int _ _) rfl rfl) ?_
    refine l_nil (r_seq (r_region' ?_))
    refine l_q (q_move (v := .int _ _) rfl rfl) ?_
    refine l_q (q_toInt Tryz.underlying5 Tryz.underlying3 rfl (by omega) rfl) ?_
    refine l_q (q_fieldAddr (o' := 0) rfl fld26_0 rfl) ?_
    refine l_q (q_load Tryz.isAgg22 rfl ((hb1.has (o := 0) rfl)) rfl) ?_
    refine l_q (q_len rfl Tryz.underlying22 rfl rfl) ?_
    refine l_q (q_rem rfl rfl (by omega) rfl) ?_
    refine l_q (q_assign (v := .int _ _) rfl rfl) ?_
    refine l_nil ?_
    refine r_forget [(5, .pointer _), (11, .slice _ _ _), (13, .int _ _), (16, .slice _ _ _), (17, .int _ _), (18, .slice _ _ _), (19, .int _ _), (20, .int _ _)] ⟨rfl, rfl, rfl, rfl, rfl, rfl, rfl, rfl, trivial⟩ (fun e50 => ?_)
    refine r_seq ?_
    have hBE := Below.refl w49.heap.size w49
    have hsz_hBE : w.heap.size ≤ w49.heap.size := hsz
    have hlt_hBE_b1 := hb1.lt
    have hlt_hBE_b7 := hb7.lt
    as_aux_lemma =>
    refine r_region' ?_
    refine l_q (q_move (v := .slice _ _ _) rfl rfl) ?_
    refine l_o (o_call Tryz.call21 rfl (rows10_ret _ _ L6 _ ((Row.of_owns ho6).ext (Ext.of_below hBE)) (hos6.rows.ext (Ext.of_below hBE)) hXs.1 hXs.2) rfl ?_)
    have hszp51 : w.heap.size ≤ w49.heap.size := hsz
    have hbl_b1 := (hb1.ext (Ext.of_below hBE)).lt
    have hbl_b7 := (hb7.ext (Ext.of_below hBE)).lt
    rintro _ w51 ⟨oa51, oc51, L51, rfl, ho51, hos51, hm51, hE51⟩
    replace ho51 := own_mono ho51 (show w49.heap.size ≤ _ by omega)
    replace hB := below_ext hB hE51 hsz
    replace hBE := below_ext hBE hE51 hBE.size
    replace hsz := Nat.le_trans hsz hE51.size
    refine l_q (q_assign (v := .slice _ _ _) rfl rfl) ?_
    refine l_nil (r_seq ?_)
    have hLRl : L51.length = nd.length := by have := congrArg List.length hm51; rw [List.length_map, List.length_map] at this; omega
    refine r_region' ?_
    refine l_q (q_move (v := .slice _ _ _) rfl rfl) ?_
    refine l_q (q_move (v := .int _ _) rfl rfl) ?_
    have hr53 := hos51.rows.get (i := (wn % (nd.length : Int)).toNat) (by omega)
    obtain ⟨b52, o52, ha52, hh52⟩ := (Row.of_owns ho51).at1 (wn % (nd.length : Int)).toNat ((L51).getD (wn % (nd.length : Int)).toNat sv0) (getD_some (by omega))
    refine l_q (q_indexAddr1 Tryz.underlying24 Tryz.sizeOf22 rfl ha52 rfl (by omega) rfl) ?_
    refine l_o (o_store_own (f := SV.enc) L51 ((wn % (nd.length : Int)).toNat) ⟨none, 0, []⟩ Tryz.sizeOf22 rfl ha52 rfl rfl (fun _ => rfl) ho51 (by omega) rfl ?_)
    intro w54 hz54 ho54 hG54
    replace hB := below_own hB hG54 ho51 (by omega) hsz
    replace hsz := Nat.le_trans hsz hG54.size
    replace hBE := below_own hBE hG54 ho51 (by first | exact Nat.le_refl _ | omega) hBE.size
    replace hos51 := hos51.kept ho51 (by decide) hG54
    replace ho51 := ho54
    have hls54 : ((L51).set ((wn % (nd.length : Int)).toNat) ⟨none, 0, []⟩).length = (L51).length := List.length_set
    refine l_nil (r_seq (r_seq ?_))
    have hszE := hBE.size
    have hszRQ : w.heap.size ≤ w54.heap.size := hsz
    have hszW := Nat.le_refl w54.heap.size
    have hlt_hos51 := OwnsI.under hos51
    refine r_region' ?_
    refine l_q (q_assign (v := .int _ _) rfl rfl) ?_
    refine l_nil (r_block ?_)
    refine r_rounds (α := Nat × (Option Addr) × Nat × (List Int)) (fun ⟨i, ea, ec, es⟩ e wl => Knows e [(5, ptr b1 0), (11, .slice oa6 ((L6).length) oc6), (13, vint (wh % (pl.length : Int))), (16, .slice fa45 ((FA.2).length) fc45), (17, vint FA.1), (18, .slice fa49 ((FB.2).length) fc49), (19, vint FB.1), (20, vint (wn % (nd.length : Int))), (21, .slice oa51 ((L51).length) oc51), (22, vint (i : Int))] ∧ (i ≤ pl.length) ∧ (es = addL (wh % (pl.length : Int)) (L6.getD (wn % (nd.length : Int)).toNat sv0).xs i) ∧ (wl.ownsRow w49.heap.size 22 1 (.slice oa51 ((L51).length) oc51) ((L51).length) ((L51.set (wn % (nd.length : Int)).toNat ⟨ea, ec, es⟩).map SV.enc)) ∧ (wl.ownsRow w54.heap.size 3 1 (.slice ea ((es).length) ec) ((es).length) ((es).map vint)) ∧ (Below w49.heap.size w49 wl) ∧ (OwnsI wl w49.heap.size 3 L51) ∧ (w54.heap.size ≤ wl.heap.size) ∧ (w.heap.size ≤ wl.heap.size) ∧ (Below w.heap.size w wl)) (fun ⟨i, ea, ec, es⟩ => pl.length - i) (0, none, 0, []) ?_ ?_
    ·
     exact ⟨⟨rfl, rfl, rfl, rfl, rfl, rfl, rfl, rfl, rfl, rfl, trivial⟩, (Nat.zero_le _), rfl, ho51, (World.ownsRow_nil _ _ _ _), hBE, hos51, hszW, hsz, hB⟩
    ·
     rintro ⟨i, ea, ec, es⟩ el55 wl55 ⟨hkn, hi, hes, hoM, he, hBE, hos51, hszW, hsz, hB⟩ ih55
     obtain ⟨e55, rfl⟩ := knows_env hkn
     refine r_seq (r_seq (r_region' ?_))
     refine l_q (q_move (v := .int _ _) rfl rfl) ?_
     refine l_q (q_fieldAddr (o' := 1) rfl fld26_1 rfl) ?_
     refine l_q (q_load Tryz.isAgg23 rfl (((hb1.ext (Ext.of_below hBE)).has (o := 1) rfl)) rfl) ?_
     refine l_q (q_len rfl Tryz.underlying23 rfl rfl) ?_
     refine l_q (q_lss rfl rfl rfl) ?_
     refine l_nil ?_
     refine r_cond rfl (fun hc56 => ?_) (fun hc56 => ?_)
     ·
      replace hc56 := dt hc56
      have hip : i < pl.length := by omega
      have hlsM : (L51.set (wn % (nd.length : Int)).toNat ⟨ea, ec, es⟩).length = L51.length := List.length_set
      refine r_skip (r_seq (r_block (r_seq (r_region' ?_))))
      refine l_q (q_move (v := .int _ _) rfl rfl) ?_
      refine l_q (q_move (v := .int _ _) rfl rfl) ?_
      refine l_q (q_eql rfl rfl rfl) ?_
      refine l_q (q_move (v := .bool _) rfl rfl) ?_
      refine l_part 116 rfl (fun hc57 => ?_) (fun hc57 => ?_)
      ·
       replace hc57 := dt hc57
       have g116 := hc57
       refine l_q (q_skip rfl) ?_
       refine l_q (q_skip rfl) ?_
       refine l_q (q_skip rfl) ?_
       refine l_q (q_skip rfl) ?_
       refine l_q (q_skip rfl) ?_
       refine l_q (q_skip rfl) ?_
       refine l_q (q_pick_t (v := .bool _) rfl rfl rfl) ?_
       refine l_nil ?_
       refine r_forget [(5, .pointer _), (11, .slice _ _ _), (13, .int _ _), (16, .slice _ _ _), (17, .int _ _), (18, .slice _ _ _), (19, .int _ _), (20, .int _ _), (21, .slice _ _ _), (22, .int _ _), (123, .bool _)] ⟨rfl, rfl, rfl, rfl, rfl, rfl, rfl, rfl, rfl, rfl, rfl, trivial⟩ (fun e58 => ?_)
       refine r_cond_t rfl ?_
       refine r_region' ?_
       refine l_q (q_move (v := .slice _ _ _) rfl rfl) ?_
       refine l_q (q_move (v := .int _ _) rfl rfl) ?_
       refine l_q (q_move (v := .slice _ _ _) rfl rfl) ?_
       refine l_q (q_move (v := .int _ _) rfl rfl) ?_
       have hr60 := (rows_set (i := (wn % (nd.length : Int)).toNat) hos51 he).get (i := (wn % (nd.length : Int)).toNat) (by omega)
       obtain ⟨b59, o59, ha59, hh59⟩ := (Row.of_owns hoM).at1 (wn % (nd.length : Int)).toNat (((L51.set (wn % (nd.length : Int)).toNat ⟨ea, ec, es⟩)).getD (wn % (nd.length : Int)).toNat sv0) (getD_some (by omega))
       refine l_q (q_indexAddr1 Tryz.underlying24 Tryz.sizeOf22 rfl ha59 rfl (by omega) rfl) ?_
       refine l_q (q_load Tryz.isAgg22 rfl (hh59) rfl) ?_
       refine l_q (q_move (v := .int _ _) rfl rfl) ?_
       have hbl_b1 := (hb1.ext (Ext.of_below hBE)).lt
       have hbl_b7 := (hb7.ext (Ext.of_below hBE)).lt
       have hszf61 := hBE.size
       refine l_o (o_buildSlice (el := 3) (cs := [vint (i : Int)]) Tryz.underlying22 el3 (by decide) (by kernel_rfl) rfl (by decide) rfl ?_)
       intro b62 w62 hzl62 hzr62 _ hb62 hE62 ho62
       have hne_b1_b62 : b1 ≠ b62 := by have := (hb1.ext (Ext.of_below hBE)).lt; omega
       have hne_b7_b62 : b7 ≠ b62 := by have := (hb7.ext (Ext.of_below hBE)).lt; omega
       have hbs_b62 : w.heap.size ≤ b62 := Nat.le_trans hsz hzl62
       have hWp_b62 := hszW
       have hbW_b62 := Nat.le_trans hszW hzl62
       replace hB := below_ext hB hE62 hsz
       replace hBE := below_ext hBE hE62 hBE.size
       replace hos51 := hos51.ext hE62
       replace hszW := Nat.le_trans hszW hE62.size
       replace hoM := own_ext hoM hE62
       replace he := own_ext he hE62
       replace hsz := Nat.le_trans hsz hE62.size
       replace ho62 := own_mono ho62 (show w54.heap.size ≤ _ by omega)
       have hbl_b1 := (hb1.ext (Ext.of_below hBE)).lt
       have hbl_b7 := (hb7.ext (Ext.of_below hBE)).lt
       have hszf63 := hBE.size
       have hE9 : ((L51.set (wn % (nd.length : Int)).toNat ⟨ea, ec, es⟩).getD (wn % (nd.length : Int)).toNat sv0) = (⟨ea, ec, es⟩ : SV) := gss (by omega)
       have hE9x : ((L51.set (wn % (nd.length : Int)).toNat ⟨ea, ec, es⟩).getD (wn % (nd.length : Int)).toNat sv0).xs = es := by rw [hE9]
       have hown : w62.ownsRow w54.heap.size 3 1 (.slice ((L51.set (wn % (nd.length : Int)).toNat ⟨ea, ec, es⟩).getD (wn % (nd.length : Int)).toNat sv0).a ((L51.set (wn % (nd.length : Int)).toNat ⟨ea, ec, es⟩).getD (wn % (nd.length : Int)).toNat sv0).xs.length ((L51.set (wn % (nd.length : Int)).toNat ⟨ea, ec, es⟩).getD (wn % (nd.length : Int)).toNat sv0).c) ((L51.set (wn % (nd.length : Int)).toNat ⟨ea, ec, es⟩).getD (wn % (nd.length : Int)).toNat sv0).xs.length (((L51.set (wn % (nd.length : Int)).toNat ⟨ea, ec, es⟩).getD (wn % (nd.length : Int)).toNat sv0).xs.map vint) := by rw [hE9]; exact he
       have hEl : ((L51.set (wn % (nd.length : Int)).toNat ⟨ea, ec, es⟩).getD (wn % (nd.length : Int)).toNat sv0).xs.length ≤ 4 := by rw [hE9x, hes]; exact Nat.le_trans (ris_len addL_ris) (by omega)
       refine l_o (o_append_map (f := vint) (((L51.set (wn % (nd.length : Int)).toNat ⟨ea, ec, es⟩).getD (wn % (nd.length : Int)).toNat sv0).xs) ([(i : Int)]) Tryz.underlying22 el3 rfl rfl hown rfl (Row.of_owns ho62) (fun _ => rfl) (by (try simp only [List.length_append, List.length_cons, List.length_nil]); omega) (by omega) rfl ?_)
       intro a64 c64 w64 hz64 ho64 hG64
       replace hB := below_own hB hG64 hown (by omega) hsz
       replace hsz := Nat.le_trans hsz hG64.size
       replace hBE := below_own hBE hG64 hown (by first | exact Nat.le_refl _ | omega) hBE.size
       replace hos51 := OwnsI.apart hos51 hlt_hos51 hown hG64
       replace hszW := Nat.le_trans hszW hG64.size
       replace hoM := own_kept hoM hown (by decide) hG64
       obtain ⟨b65, o65, ha65, hh65⟩ := (Row.of_owns hoM).at1 (wn % (nd.length : Int)).toNat (((L51.set (wn % (nd.length : Int)).toNat ⟨ea, ec, es⟩)).getD (wn % (nd.length : Int)).toNat sv0) (getD_some (by omega))
       refine l_q (q_indexAddr1 Tryz.underlying24 Tryz.sizeOf22 rfl ha65 rfl (by omega) rfl) ?_
       refine l_o (o_store_own (f := SV.enc) (L51.set (wn % (nd.length : Int)).toNat ⟨ea, ec, es⟩) ((wn % (nd.length : Int)).toNat) ⟨a64, c64, ((L51.set (wn % (nd.length : Int)).toNat ⟨ea, ec, es⟩).getD (wn % (nd.length : Int)).toNat sv0).xs ++ [(i : Int)]⟩ Tryz.sizeOf22 rfl ha65 rfl rfl (fun _ => rfl) hoM (by omega) rfl ?_)
       intro w66 hz66 ho66 hG66
       replace hB := below_own hB hG66 hoM (by omega) hsz
       replace hsz := Nat.le_trans hsz hG66.size
       replace hBE := below_own hBE hG66 hoM (by first | exact Nat.le_refl _ | omega) hBE.size
       replace hos51 := hos51.kept hoM (by decide) hG66
       replace hszW := Nat.le_trans hszW hG66.size
       replace ho64 := own_kept ho64 hoM (by decide) hG66
       replace hoM := ho66
       have hls66 : (((L51.set (wn % (nd.length : Int)).toNat ⟨ea, ec, es⟩)).set ((wn % (nd.length : Int)).toNat) ⟨a64, c64, ((L51.set (wn % (nd.length : Int)).toNat ⟨ea, ec, es⟩).getD (wn % (nd.length : Int)).toNat sv0).xs ++ [(i : Int)]⟩).length = ((L51.set (wn % (nd.length : Int)).toNat ⟨ea, ec, es⟩)).length := List.length_set
       rw [hE9x, List.set_set] at hoM
       rw [hE9x] at ho64
       refine l_nil ?_
       refine r_forget [(5, .pointer _), (11, .slice _ _ _), (13, .int _ _), (16, .slice _ _ _), (17, .int _ _), (18, .slice _ _ _), (19, .int _ _), (20, .int _ _), (21, .slice _ _ _), (22, .int _ _)] ⟨rfl, rfl, rfl, rfl, rfl, rfl, rfl, rfl, rfl, rfl, trivial⟩ (fun e67 => ?_)
       refine r_inBlock (r_region' ?_)
       refine l_q (q_move (v := .int _ _) rfl rfl) ?_
       refine l_q (q_add rfl rfl (by omega) rfl) ?_
       refine l_q (q_assign (v := .int _ _) rfl rfl) ?_
       refine l_nil ?_
       exact ih55 (i + 1, a64, c64, es ++ [(i : Int)]) _ _ ⟨⟨rfl, rfl, rfl, rfl, rfl, rfl, rfl, rfl, rfl, (vint_eq (by omega)), trivial⟩, (by omega), (add_yes hes (by rw [decide_eq_true g116]; rfl)), hoM, ho64, hBE, hos51, hszW, hsz, hB⟩ (by first | omega | (dsimp only; omega))
      ·
       replace hc57 := df hc57
       have g116 := hc57
       refine l_q (q_move (v := .slice _ _ _) rfl rfl) ?_
       refine l_q (q_move (v := .int _ _) rfl rfl) ?_
       have hr69 := (hos6.rows.ext (Ext.of_below hBE)).get (i := (wn % (nd.length : Int)).toNat) (by omega)
       obtain ⟨b68, o68, ha68, hh68⟩ := ((Row.of_owns ho6).ext (Ext.of_below hBE)).at1 (wn % (nd.length : Int)).toNat ((L6).getD (wn % (nd.length : Int)).toNat sv0) (getD_some (by omega))
       refine l_q (q_indexAddr1 Tryz.underlying24 Tryz.sizeOf22 rfl ha68 rfl (by omega) rfl) ?_
       refine l_q (q_load Tryz.isAgg22 rfl (hh68) rfl) ?_
       refine l_q (q_move (v := .int _ _) rfl rfl) ?_
       refine l_o (o_call Tryz.call44 rfl (has10_ret _ _ (((L6).getD (wn % (nd.length : Int)).toNat sv0).xs) _ _ hr69 (hXs.2 _ (getD_lt (d := sv0) (by omega)))) rfl ?_)
       rintro _ w70 ⟨rfl, hE70⟩
       replace hB := below_ext hB hE70 hsz
       replace hBE := below_ext hBE hE70 hBE.size
       replace hos51 := hos51.ext hE70
       replace hszW := Nat.le_trans hszW hE70.size
       replace hoM := own_ext hoM hE70
       replace he := own_ext he hE70
       replace hsz := Nat.le_trans hsz hE70.size
       refine l_q (q_pick_f (v := .bool _) rfl rfl rfl) ?_
       refine l_nil ?_
       refine r_forget [(5, .pointer _), (11, .slice _ _ _), (13, .int _ _), (16, .slice _ _ _), (17, .int _ _), (18, .slice _ _ _), (19, .int _ _), (20, .int _ _), (21, .slice _ _ _), (22, .int _ _), (123, .bool _)] ⟨rfl, rfl, rfl, rfl, rfl, rfl, rfl, rfl, rfl, rfl, rfl, trivial⟩ (fun e71 => ?_)
       refine r_cond rfl (fun hc72 => ?_) (fun hc72 => ?_)
       ·
        have g123 := hc72
        refine r_region' ?_
        refine l_q (q_move (v := .slice _ _ _) rfl rfl) ?_
        refine l_q (q_move (v := .int _ _) rfl rfl) ?_
        refine l_q (q_move (v := .slice _ _ _) rfl rfl) ?_
        refine l_q (q_move (v := .int _ _) rfl rfl) ?_
        have hr74 := (rows_set (i := (wn % (nd.length : Int)).toNat) hos51 he).get (i := (wn % (nd.length : Int)).toNat) (by omega)
        obtain ⟨b73, o73, ha73, hh73⟩ := (Row.of_owns hoM).at1 (wn % (nd.length : Int)).toNat (((L51.set (wn % (nd.length : Int)).toNat ⟨ea, ec, es⟩)).getD (wn % (nd.length : Int)).toNat sv0) (getD_some (by omega))
        refine l_q (q_indexAddr1 Tryz.underlying24 Tryz.sizeOf22 rfl ha73 rfl (by omega) rfl) ?_
        refine l_q (q_load Tryz.isAgg22 rfl (hh73) rfl) ?_
        refine l_q (q_move (v := .int _ _) rfl rfl) ?_
        have hbl_b1 := (hb1.ext (Ext.of_below hBE)).lt
        have hbl_b7 := (hb7.ext (Ext.of_below hBE)).lt
        have hszf75 := hBE.size
        refine l_o (o_buildSlice (el := 3) (cs := [vint (i : Int)]) Tryz.underlying22 el3 (by decide) (by kernel_rfl) rfl (by decide) rfl ?_)
        intro b76 w76 hzl76 hzr76 _ hb76 hE76 ho76
        have hne_b1_b76 : b1 ≠ b76 := by have := (hb1.ext (Ext.of_below hBE)).lt; omega
        have hne_b7_b76 : b7 ≠ b76 := by have := (hb7.ext (Ext.of_below hBE)).lt; omega
        have hbs_b76 : w.heap.size ≤ b76 := Nat.le_trans hsz hzl76
        have hWp_b76 := hszW
        have hbW_b76 := Nat.le_trans hszW hzl76
        replace hB := below_ext hB hE76 hsz
        replace hBE := below_ext hBE hE76 hBE.size
        replace hos51 := hos51.ext hE76
        replace hszW := Nat.le_trans hszW hE76.size
        replace hoM := own_ext hoM hE76
        replace he := own_ext he hE76
        replace hsz := Nat.le_trans hsz hE76.size
        replace ho76 := own_mono ho76 (show w54.heap.size ≤ _ by omega)
        have hbl_b1 := (hb1.ext (Ext.of_below hBE)).lt
        have hbl_b7 := (hb7.ext (Ext.of_below hBE)).lt
        have hszf77 := hBE.size
        have hE9 : ((L51.set (wn % (nd.length : Int)).toNat ⟨ea, ec, es⟩).getD (wn % (nd.length : Int)).toNat sv0) = (⟨ea, ec, es⟩ : SV) := gss (by omega)
        have hE9x : ((L51.set (wn % (nd.length : Int)).toNat ⟨ea, ec, es⟩).getD (wn % (nd.length : Int)).toNat sv0).xs = es := by rw [hE9]
        have hown : w76.ownsRow w54.heap.size 3 1 (.slice ((L51.set (wn % (nd.length : Int)).toNat ⟨ea, ec, es⟩).getD (wn % (nd.length : Int)).toNat sv0).a ((L51.set (wn % (nd.length : Int)).toNat ⟨ea, ec, es⟩).getD (wn % (nd.length : Int)).toNat sv0).xs.length ((L51.set (wn % (nd.length : Int)).toNat ⟨ea, ec, es⟩).getD (wn % (nd.length : Int)).toNat sv0).c) ((L51.set (wn % (nd.length : Int)).toNat ⟨ea, ec, es⟩).getD (wn % (nd.length : Int)).toNat sv0).xs.length (((L51.set (wn % (nd.length : Int)).toNat ⟨ea, ec, es⟩).getD (wn % (nd.length : Int)).toNat sv0).xs.map vint) := by rw [hE9]; exact he
        have hEl : ((L51.set (wn % (nd.length : Int)).toNat ⟨ea, ec, es⟩).getD (wn % (nd.length : Int)).toNat sv0).xs.length ≤ 4 := by rw [hE9x, hes]; exact Nat.le_trans (ris_len addL_ris) (by omega)
        refine l_o (o_append_map (f := vint) (((L51.set (wn % (nd.length : Int)).toNat ⟨ea, ec, es⟩).getD (wn % (nd.length : Int)).toNat sv0).xs) ([(i : Int)]) Tryz.underlying22 el3 rfl rfl hown rfl (Row.of_owns ho76) (fun _ => rfl) (by (try simp only [List.length_append, List.length_cons, List.length_nil]); omega) (by omega) rfl ?_)
        intro a78 c78 w78 hz78 ho78 hG78
        replace hB := below_own hB hG78 hown (by omega) hsz
        replace hsz := Nat.le_trans hsz hG78.size
        replace hBE := below_own hBE hG78 hown (by first | exact Nat.le_refl _ | omega) hBE.size
        replace hos51 := OwnsI.apart hos51 hlt_hos51 hown hG78
        replace hszW := Nat.le_trans hszW hG78.size
        replace hoM := own_kept hoM hown (by decide) hG78
        obtain ⟨b79, o79, ha79, hh79⟩ := (Row.of_owns hoM).at1 (wn % (nd.length : Int)).toNat (((L51.set (wn % (nd.length : Int)).toNat ⟨ea, ec, es⟩)).getD (wn % (nd.length : Int)).toNat sv0) (getD_some (by omega))
        refine l_q (q_indexAddr1 Tryz.underlying24 Tryz.sizeOf22 rfl ha79 rfl (by omega) rfl) ?_
        refine l_o (o_store_own (f := SV.enc) (L51.set (wn % (nd.length : Int)).toNat ⟨ea, ec, es⟩) ((wn % (nd.length : Int)).toNat) ⟨a78, c78, ((L51.set (wn % (nd.length : Int)).toNat ⟨ea, ec, es⟩).getD (wn % (nd.length : Int)).toNat sv0).xs ++ [(i : Int)]⟩ Tryz.sizeOf22 rfl ha79 rfl rfl (fun _ => rfl) hoM (by omega) rfl ?_)
        intro w80 hz80 ho80 hG80
        replace hB := below_own hB hG80 hoM (by omega) hsz
        replace hsz := Nat.le_trans hsz hG80.size
        replace hBE := below_own hBE hG80 hoM (by first | exact Nat.le_refl _ | omega) hBE.size
        replace hos51 := hos51.kept hoM (by decide) hG80
        replace hszW := Nat.le_trans hszW hG80.size
        replace ho78 := own_kept ho78 hoM (by decide) hG80
        replace hoM := ho80
        have hls80 : (((L51.set (wn % (nd.length : Int)).toNat ⟨ea, ec, es⟩)).set ((wn % (nd.length : Int)).toNat) ⟨a78, c78, ((L51.set (wn % (nd.length : Int)).toNat ⟨ea, ec, es⟩).getD (wn % (nd.length : Int)).toNat sv0).xs ++ [(i : Int)]⟩).length = ((L51.set (wn % (nd.length : Int)).toNat ⟨ea, ec, es⟩)).length := List.length_set
        rw [hE9x, List.set_set] at hoM
        rw [hE9x] at ho78
        refine l_nil ?_
        refine r_forget [(5, .pointer _), (11, .slice _ _ _), (13, .int _ _), (16, .slice _ _ _), (17, .int _ _), (18, .slice _ _ _), (19, .int _ _), (20, .int _ _), (21, .slice _ _ _), (22, .int _ _)] ⟨rfl, rfl, rfl, rfl, rfl, rfl, rfl, rfl, rfl, rfl, trivial⟩ (fun e81 => ?_)
        refine r_inBlock (r_region' ?_)
        refine l_q (q_move (v := .int _ _) rfl rfl) ?_
        refine l_q (q_add rfl rfl (by omega) rfl) ?_
        refine l_q (q_assign (v := .int _ _) rfl rfl) ?_
        refine l_nil ?_
        exact ih55 (i + 1, a78, c78, es ++ [(i : Int)]) _ _ ⟨⟨rfl, rfl, rfl, rfl, rfl, rfl, rfl, rfl, rfl, (vint_eq (by omega)), trivial⟩, (by omega), (add_yes hes (by rw [g123, Bool.or_true])), hoM, ho78, hBE, hos51, hszW, hsz, hB⟩ (by first | omega | (dsimp only; omega))
       ·
        have g123 := hc72
        refine r_skip (r_inBlock (r_region' ?_))
        refine l_q (q_move (v := .int _ _) rfl rfl) ?_
        refine l_q (q_add rfl rfl (by omega) rfl) ?_
        refine l_q (q_assign (v := .int _ _) rfl rfl) ?_
        refine l_nil ?_
        exact ih55 (i + 1, ea, ec, es) _ _ ⟨⟨rfl, rfl, rfl, rfl, rfl, rfl, rfl, rfl, rfl, (vint_eq (by omega)), trivial⟩, (by omega), (add_no hes (by rw [decide_eq_false g116, g123]; rfl)), hoM, he, hBE, hos51, hszW, hsz, hB⟩ (by first | omega | (dsimp only; omega))
     ·
      replace hc56 := dlt hc56
      refine r_exit rfl ?_
      refine r_seq ?_
      obtain rfl : i = pl.length := by omega
      have hlsU : (L51.set (wn % (nd.length : Int)).toNat ⟨ea, ec, es⟩).length = L51.length := List.length_set
      have hU : (L51.set (wn % (nd.length : Int)).toNat ⟨ea, ec, es⟩).map (·.xs) = (L6.map (·.xs)).set (wn % (nd.length : Int)).toNat (addL (wh % (pl.length : Int)) (L6.getD (wn % (nd.length : Int)).toNat sv0).xs pl.length) := by rw [List.map_set, hm51, ← hes]
      have hIU : IsR nd pl.length ((L51.set (wn % (nd.length : Int)).toNat ⟨ea, ec, es⟩).map (·.xs)) := by rw [hU]; exact isr_set hI addL_ris
      have hpu := plan_zero hok hIU
      have hUs := isr_small hIU hn5 hp4
      as_aux_lemma =>
      refine r_region' ?_
      refine l_q (q_load_agg (n := 3) Tryz.isAgg26 Tryz.sizeOf26 rfl (((hb1.ext (Ext.of_below hBE)).cells' (cs' := [_, _, _]) 0 3 rfl)) rfl rfl) ?_
      refine l_o (o_call Tryz.call19 rfl (post10_ret na nc nd pa pc pl ca cc L _ (hpo.below hB) hbg) rfl ?_)
      rintro _ w82 ⟨pna82, pnc82, ppa82, ppc82, ppl82, pca82, pcc82, pL82, rfl, hpo82, hpp82, hpL82, hE82⟩
      replace hB := below_ext hB hE82 hsz
      replace hBE := below_ext hBE hE82 hBE.size
      replace hos51 := hos51.ext hE82
      replace hoM := own_ext hoM hE82
      replace he := own_ext he hE82
      replace hsz := Nat.le_trans hsz hE82.size
      have hbg82 := post_big hpp82 hpL82 hbg
      refine l_q (q_move (v := .slice _ _ _) rfl rfl) ?_
      obtain ⟨FD, hFD⟩ : ∃ F, failsX nd (planP (po nd pl L) ((L51.set (wn % (nd.length : Int)).toNat ⟨ea, ec, es⟩).map (·.xs))) ((L51.set (wn % (nd.length : Int)).toNat ⟨ea, ec, es⟩).map (·.xs)) (L.map (·.xs)) = F := ⟨_, rfl⟩
      refine l_o (o_call Tryz.call25 rfl ((by have h := Fails_ret pna82 pnc82 nd ppa82 ppc82 ppl82 pca82 pcc82 pL82 _ _ (L51.set (wn % (nd.length : Int)).toNat ⟨ea, ec, es⟩) _ hpo82 hbg82.1 hbg82.2.1 hbg82.2.2.1 hbg82.2.2.2.1 (by rw [hlsU]; exact Row.of_owns hoM) (rows_set (i := (wn % (nd.length : Int)).toNat) hos51 he) hUs.1 hUs.2; rw [fails_eq (hpo82).rCr, po_pn hpp82 hpL82, hpL82, hlsU] at h; rw [hFD] at h; exact h)) rfl ?_)
      rintro _ w83 ⟨fa83, fc83, rfl, hf83, hE83⟩
      replace hB := below_ext hB hE83 hsz
      replace hBE := below_ext hBE hE83 hBE.size
      replace hos51 := hos51.ext hE83
      replace hoM := own_ext hoM hE83
      replace he := own_ext he hE83
      replace hpo82 := hpo82.ext hE83
      replace hsz := Nat.le_trans hsz hE83.size
      refine l_q (q_move (v := .tuple _) rfl rfl) ?_
      refine l_q (q_extract (vs := [_, _]) (v := .slice _ _ _) rfl rfl rfl) ?_
      refine l_q (q_extract (vs := [_, _]) (v := .int _ _) rfl rfl rfl) ?_
      refine l_q (q_assign (v := .slice _ _ _) rfl rfl) ?_
      refine l_q (q_assign (v := .int _ _) rfl rfl) ?_
      refine l_nil ?_
      refine r_forget [(5, .pointer _), (16, .slice _ _ _), (17, .int _ _), (18, .slice _ _ _), (19, .int _ _), (23, .slice _ _ _), (24, .int _ _)] ⟨rfl, rfl, rfl, rfl, rfl, rfl, rfl, trivial⟩ (fun e84 => ?_)
      refine r_seq (r_seq ?_)
      have hfa : FA.2.length = L.length + 1 := by rw [← hFA, fails_len hpx, List.length_map]
      have hfb : FB.2.length = L.length + 1 := by rw [← hFB, fails_len hpy, List.length_map]; omega
      have hfd : FD.2.length = L.length + 1 := by rw [← hFD, fails_len hpu, List.length_map]
      have hUl : ((L51.set (wn % (nd.length : Int)).toNat ⟨ea, ec, es⟩).map (·.xs)).length = (L6.map (·.xs)).length := by rw [hU, List.length_set]
      have hUsub : ∀ k, k < (L6.map (·.xs)).length → ((L6.map (·.xs)).getD k []).Sublist (((L51.set (wn % (nd.length : Int)).toNat ⟨ea, ec, es⟩).map (·.xs)).getD k []) := by rw [hU]; exact set_sub (by rw [xs_at]; exact addL_sub (hI.2 _ (List.mem_map.2 ⟨_, getD_lt (d := sv0) (by omega), rfl⟩)))
      refine r_region' ?_
      refine l_q (q_move (v := .int _ _) rfl rfl) ?_
      refine l_q (q_neq rfl rfl rfl) ?_
      refine l_q (q_move (v := .bool _) rfl rfl) ?_
      have hk85 : (!decide (FA.1 = 0)) = false := by rw [← hFA, fails_1, hpx]; rfl
      refine l_part 143 rfl (fun hx => absurd (hk85.symm.trans hx) (by decide)) (fun _ => ?_)
      refine l_q (q_move (v := .int _ _) rfl rfl) ?_
      refine l_q (q_neq rfl rfl rfl) ?_
      refine l_q (q_pick_f (v := .bool _) rfl rfl rfl) ?_
      refine l_q (q_move (v := .bool _) rfl rfl) ?_
      have hk86 : (!decide (FB.1 = 0)) = false := by rw [← hFB, fails_1, hpy]; rfl
      refine l_part 147 rfl (fun hx => absurd (hk86.symm.trans hx) (by decide)) (fun _ => ?_)
      refine l_q (q_move (v := .int _ _) rfl rfl) ?_
      refine l_q (q_neq rfl rfl rfl) ?_
      refine l_q (q_pick_f (v := .bool _) rfl rfl rfl) ?_
      refine l_q (q_move (v := .bool _) rfl rfl) ?_
      have hk87 : (!decide (FD.1 = 0)) = false := by rw [← hFD, fails_1, hpu]; rfl
      refine l_part 151 rfl (fun hx => absurd (hk87.symm.trans hx) (by decide)) (fun _ => ?_)
      refine l_q (q_move (v := .slice _ _ _) rfl rfl) ?_
      refine l_q (q_len rfl Tryz.underlying22 rfl rfl) ?_
      refine l_q (q_fieldAddr (o' := 2) rfl fld26_2 rfl) ?_
      refine l_q (q_load Tryz.isAgg24 rfl (((hb1.ext (Ext.of_below hBE)).has (o := 2) rfl)) rfl) ?_
      refine l_q (q_len rfl Tryz.underlying24 rfl rfl) ?_
      refine l_q (q_add rfl rfl (by omega) rfl) ?_
      refine l_q (q_neq rfl rfl rfl) ?_
      refine l_q (q_pick_f (v := .bool _) rfl rfl rfl) ?_
      refine l_q (q_move (v := .bool _) rfl rfl) ?_
      have hk88 : (!decide (((FA.2).length : Int) = ((L.length : Int) + 1))) = false := by rw [hfa]; simp
      refine l_part 160 rfl (fun hx => absurd (hk88.symm.trans hx) (by decide)) (fun _ => ?_)
      refine l_q (q_move (v := .slice _ _ _) rfl rfl) ?_
      refine l_q (q_len rfl Tryz.underlying22 rfl rfl) ?_
      refine l_q (q_move (v := .slice _ _ _) rfl rfl) ?_
      refine l_q (q_len rfl Tryz.underlying22 rfl rfl) ?_
      refine l_q (q_neq rfl rfl rfl) ?_
      refine l_q (q_pick_f (v := .bool _) rfl rfl rfl) ?_
      refine l_q (q_move (v := .bool _) rfl rfl) ?_
      have hk89 : (!decide (((FB.2).length : Int) = ((FA.2).length : Int))) = false := by rw [hfb, hfa]; simp
      refine l_part 167 rfl (fun hx => absurd (hk89.symm.trans hx) (by decide)) (fun _ => ?_)
      refine l_q (q_move (v := .slice _ _ _) rfl rfl) ?_
      refine l_q (q_len rfl Tryz.underlying22 rfl rfl) ?_
      refine l_q (q_move (v := .slice _ _ _) rfl rfl) ?_
      refine l_q (q_len rfl Tryz.underlying22 rfl rfl) ?_
      refine l_q (q_neq rfl rfl rfl) ?_
      refine l_q (q_pick_f (v := .bool _) rfl rfl rfl) ?_
      refine l_nil ?_
      refine r_forget [(16, .slice _ _ _), (18, .slice _ _ _), (23, .slice _ _ _), (173, .bool _)] ⟨rfl, rfl, rfl, rfl, trivial⟩ (fun e90 => ?_)
      have hk91 : (!decide (((FD.2).length : Int) = ((FA.2).length : Int))) = false := by rw [hfd, hfa]; simp
      refine r_cond_f ((congrArg Value.bool hk91 : Value.bool _ = _)) ?_
      refine r_skip (r_seq (r_seq (r_region' ?_)))
      refine l_q (q_assign (v := .int _ _) rfl rfl) ?_
      refine l_nil (r_block ?_)
      refine r_rounds (α := Nat) (fun c2 e wl => Knows e [(16, .slice fa45 ((FA.2).length) fc45), (18, .slice fa49 ((FB.2).length) fc49), (23, .slice fa83 ((FD.2).length) fc83), (25, vint (c2 : Int))] ∧ (c2 ≤ L.length + 1) ∧ (Below w49.heap.size w49 wl) ∧ (OwnsI wl w49.heap.size 3 L51) ∧ (wl.ownsRow w49.heap.size 22 1 (.slice oa51 ((L51).length) oc51) ((L51).length) ((L51.set (wn % (nd.length : Int)).toNat ⟨ea, ec, es⟩).map SV.enc)) ∧ (wl.ownsRow w54.heap.size 3 1 (.slice ea ((es).length) ec) ((es).length) ((es).map vint)) ∧ (PoAt wl pna82 pnc82 nd ppa82 ppc82 ppl82 pca82 pcc82 pL82) ∧ (Row wl fa83 ((FD.2).length) fc83 1 ((FD.2).map vint)) ∧ (w.heap.size ≤ wl.heap.size) ∧ (Below w.heap.size w wl)) (fun c2 => L.length + 1 - c2) 0 ?_ ?_
      ·
       exact ⟨⟨rfl, rfl, rfl, rfl, trivial⟩, (Nat.zero_le _), hBE, hos51, hoM, he, hpo82, hf83, hsz, hB⟩
      ·
       rintro c2 el92 wl92 ⟨hkn, hkc2, hBE, hos51, hoM, he, hpo82, hf83, hsz, hB⟩ ih92
       obtain ⟨e92, rfl⟩ := knows_env hkn
       refine r_seq (r_seq (r_region' ?_))
       refine l_q (q_move (v := .int _ _) rfl rfl) ?_
       refine l_q (q_move (v := .slice _ _ _) rfl rfl) ?_
       refine l_q (q_len rfl Tryz.underlying22 rfl rfl) ?_
       refine l_q (q_lss rfl rfl rfl) ?_
       refine l_nil ?_
       refine r_cond rfl (fun hc93 => ?_) (fun hc93 => ?_)
       ·
        replace hc93 := dt hc93
        have hc2 : c2 < L.length + 1 := by omega
        refine r_skip (r_seq (r_block (r_seq ?_)))
        obtain ⟨q1, q2⟩ := fail_lat (nd := nd) (T := (L6.map (·.xs))) (C := (L.map (·.xs))) (k := (wh % (pl.length : Int)).toNat) (b := (bz % 3)) (nn := (nd.length : Int)) hb0 (by omega) c2
        obtain ⟨q3, q4⟩ := fail_more (nd := nd) (C := (L.map (·.xs))) hUl hUsub c2
        rw [← lat_end hM] at q1 q2
        have hA9 : failX nd (L6.map (·.xs)) (L.map (·.xs)) c2 = FA.2.getD c2 0 := by rw [← hFA, fails_at hpx (by rw [List.length_map]; omega)]
        have hB9 : failX nd (L6.map (·.xs)) (M.map (·.xs)) c2 = FB.2.getD c2 0 := by rw [← hFB, fails_at hpy (by rw [List.length_map]; omega)]
        have hD9 : failX nd ((L51.set (wn % (nd.length : Int)).toNat ⟨ea, ec, es⟩).map (·.xs)) (L.map (·.xs)) c2 = FD.2.getD c2 0 := by rw [← hFD, fails_at hpu (by rw [List.length_map]; omega)]
        rw [hA9, hB9] at q1 q2
        rw [hA9, hD9] at q3 q4
        refine r_draw ext_refl' ext_trans' [0, 1, 2, 3, 4, 5, 6, 7, 8, 9, 10, 11, 12, 13, 14, 15, 16, 17, 18, 19, 20, 21, 22, 23, 24, 25, 26, 27, 28, 29, 30, 31, 32, 33, 34, 35, 36, 37, 38, 39, 40, 41, 42, 43, 44, 45, 46, 47, 48, 49, 50, 51, 52, 53, 54, 55, 56, 57, 58, 59, 60, 61] [] 2 (by kernel_rfl) (by kernel_rfl) ?_
        intro w94 _ hE94
        replace hB := below_ext hB hE94 hsz
        replace hBE := below_ext hBE hE94 hBE.size
        replace hos51 := hos51.ext hE94
        replace hoM := own_ext hoM hE94
        replace he := own_ext he hE94
        replace hpo82 := hpo82.ext hE94
        replace hf83 := hf83.ext hE94
        replace hsz := Nat.le_trans hsz hE94.size
        refine m_q rfl rfl (fun w' hC' => q_move (v := .slice _ _ _) rfl rfl) ?_
        refine m_q rfl rfl (fun w' hC' => q_move (v := .int _ _) rfl rfl) ?_
        obtain ⟨b95, o95, ha95, hh95⟩ := (hf45.ext (Ext.of_below hBE)).at1 c2 ((FA.2).getD c2 0) (getD_some (by omega))
        refine m_q rfl rfl (fun w' hC' => q_indexAddr1 Tryz.underlying22 Tryz.sizeOf3 rfl ha95 rfl (by omega) rfl) ?_
        refine m_q rfl rfl (fun w' hC' => q_load Tryz.isAgg3 rfl ((hh95.ext hC')) rfl) ?_
        refine m_q rfl rfl (fun w' hC' => q_lss rfl rfl rfl) ?_
        refine m_q rfl rfl (fun w' hC' => q_move (v := .bool _) rfl rfl) ?_
        refine m_part 185 rfl (fun hc96 => ?_) (fun hc96 => ?_)
        ·
         replace hc96 := dt hc96
         refine m_q rfl rfl (fun w' hC' => q_move (v := .slice _ _ _) rfl rfl) ?_
         refine m_q rfl rfl (fun w' hC' => q_move (v := .int _ _) rfl rfl) ?_
         obtain ⟨b97, o97, ha97, hh97⟩ := (hf49.ext (Ext.of_below hBE)).at1 c2 ((FB.2).getD c2 0) (getD_some (by omega))
         refine m_q rfl rfl (fun w' hC' => q_indexAddr1 Tryz.underlying22 Tryz.sizeOf3 rfl ha97 rfl (by omega) rfl) ?_
         refine m_q rfl rfl (fun w' hC' => q_load Tryz.isAgg3 rfl ((hh97.ext hC')) rfl) ?_
         refine m_q rfl rfl (fun w' hC' => q_geq rfl rfl rfl) ?_
         refine m_q rfl rfl (fun w' hC' => q_move (v := .bool _) rfl rfl) ?_
         have hk98 : (decide (0 ≤ ((FB.2).getD c2 0))) = false := by first | rfl | exact decide_eq_false (by omega)
         refine m_part 191 rfl (fun hx => absurd (hk98.symm.trans hx) (by decide)) (fun _ => ?_)
         refine m_q rfl rfl (fun w' hC' => q_move (v := .slice _ _ _) rfl rfl) ?_
         refine m_q rfl rfl (fun w' hC' => q_move (v := .int _ _) rfl rfl) ?_
         obtain ⟨b99, o99, ha99, hh99⟩ := hf83.at1 c2 ((FD.2).getD c2 0) (getD_some (by omega))
         refine m_q rfl rfl (fun w' hC' => q_indexAddr1 Tryz.underlying22 Tryz.sizeOf3 rfl ha99 rfl (by omega) rfl) ?_
         refine m_q rfl rfl (fun w' hC' => q_load Tryz.isAgg3 rfl ((hh99.ext hC')) rfl) ?_
         refine m_q rfl rfl (fun w' hC' => q_geq rfl rfl rfl) ?_
         refine m_q rfl rfl (fun w' hC' => q_pick_f (v := .bool _) rfl rfl rfl) ?_
         refine m_q rfl rfl (fun w' hC' => q_pick_t (v := .bool _) rfl rfl rfl) ?_
         refine m_q rfl rfl (fun w' hC' => q_move (v := .bool _) rfl rfl) ?_
         have hk100 : (decide (0 ≤ ((FD.2).getD c2 0))) = false := by first | rfl | exact decide_eq_false (by omega)
         refine m_part 199 rfl (fun hx => absurd (hk100.symm.trans hx) (by decide)) (fun _ => ?_)
         refine m_q rfl rfl (fun w' hC' => q_move (v := .slice _ _ _) rfl rfl) ?_
         refine m_q rfl rfl (fun w' hC' => q_move (v := .int _ _) rfl rfl) ?_
         obtain ⟨b101, o101, ha101, hh101⟩ := (hf45.ext (Ext.of_below hBE)).at1 c2 ((FA.2).getD c2 0) (getD_some (by omega))
         refine m_q rfl rfl (fun w' hC' => q_indexAddr1 Tryz.underlying22 Tryz.sizeOf3 rfl ha101 rfl (by omega) rfl) ?_
         refine m_q rfl rfl (fun w' hC' => q_load Tryz.isAgg3 rfl ((hh101.ext hC')) rfl) ?_
         refine m_q rfl rfl (fun w' hC' => q_geq rfl rfl rfl) ?_
         refine m_q rfl rfl (fun w' hC' => q_move (v := .bool _) rfl rfl) ?_
         have hk102 : (decide (0 ≤ ((FA.2).getD c2 0))) = false := by first | rfl | exact decide_eq_false (by omega)
         refine m_part 205 rfl (fun hx => absurd (hk102.symm.trans hx) (by decide)) (fun _ => ?_)
         refine m_q rfl rfl (fun w' hC' => q_skip rfl) ?_
         refine m_q rfl rfl (fun w' hC' => q_skip rfl) ?_
         refine m_q rfl rfl (fun w' hC' => q_skip rfl) ?_
         refine m_q rfl rfl (fun w' hC' => q_skip rfl) ?_
         refine m_q rfl rfl (fun w' hC' => q_skip rfl) ?_
         refine m_q rfl rfl (fun w' hC' => q_skip rfl) ?_
         refine m_q rfl rfl (fun w' hC' => q_skip rfl) ?_
         refine m_q rfl rfl (fun w' hC' => q_skip rfl) ?_
         refine m_q rfl rfl (fun w' hC' => q_skip rfl) ?_
         refine m_q rfl rfl (fun w' hC' => q_skip rfl) ?_
         refine m_q rfl rfl (fun w' hC' => q_skip rfl) ?_
         refine m_q rfl rfl (fun w' hC' => q_skip rfl) ?_
         refine m_q rfl rfl (fun w' hC' => q_skip rfl) ?_
         refine m_q rfl rfl (fun w' hC' => q_skip rfl) ?_
         refine m_q rfl rfl (fun w' hC' => q_skip rfl) ?_
         refine m_q rfl rfl (fun w' hC' => q_skip rfl) ?_
         refine m_q rfl rfl (fun w' hC' => q_skip rfl) ?_
         refine m_q rfl rfl (fun w' hC' => q_skip rfl) ?_
         refine m_q rfl rfl (fun w' hC' => q_skip rfl) ?_
         refine m_q rfl rfl (fun w' hC' => q_skip rfl) ?_
         refine m_q rfl rfl (fun w' hC' => q_skip rfl) ?_
         refine m_q rfl rfl (fun w' hC' => q_skip rfl) ?_
         refine m_q rfl rfl (fun w' hC' => q_skip rfl) ?_
         refine m_q rfl rfl (fun w' hC' => q_skip rfl) ?_
         refine m_q rfl rfl (fun w' hC' => q_skip rfl) ?_
         refine m_q rfl rfl (fun w' hC' => q_skip rfl) ?_
         refine m_q rfl rfl (fun w' hC' => q_skip rfl) ?_
         refine m_q rfl rfl (fun w' hC' => q_skip rfl) ?_
         refine m_q rfl rfl (fun w' hC' => q_skip rfl) ?_
         refine m_q rfl rfl (fun w' hC' => q_skip rfl) ?_
         refine m_q rfl rfl (fun w' hC' => q_skip rfl) ?_
         refine m_q rfl rfl (fun w' hC' => q_skip rfl) ?_
         refine m_q rfl rfl (fun w' hC' => q_skip rfl) ?_
         refine m_q rfl rfl (fun w' hC' => q_skip rfl) ?_
         refine m_q rfl rfl (fun w' hC' => q_pick_f (v := .bool _) rfl rfl rfl) ?_
         refine m_q rfl rfl (fun w' hC' => q_pick_f (v := .bool _) rfl rfl rfl) ?_
         refine m_nil ?_
         refine r_forget [(16, .slice _ _ _), (18, .slice _ _ _), (23, .slice _ _ _), (25, .int _ _), (241, .bool _)] ⟨rfl, rfl, rfl, rfl, rfl, trivial⟩ (fun e103 => ?_)
         refine r_cond_f rfl ?_
         refine r_skip (r_inBlock (r_region' ?_))
         refine l_q (q_move (v := .int _ _) rfl rfl) ?_
         refine l_q (q_add rfl rfl (by omega) rfl) ?_
         refine l_q (q_assign (v := .int _ _) rfl rfl) ?_
         refine l_nil ?_
         exact ih92 (c2 + 1) _ _ ⟨⟨rfl, rfl, rfl, by first | rfl | exact vint_eq (by omega), trivial⟩, (by omega), hBE, hos51, hoM, he, hpo82, hf83, hsz, hB⟩ (by first | omega | (dsimp only; omega))
        ·
         replace hc96 := dlt hc96
         refine m_q rfl rfl (fun w' hC' => q_skip rfl) ?_
         refine m_q rfl rfl (fun w' hC' => q_skip rfl) ?_
         refine m_q rfl rfl (fun w' hC' => q_skip rfl) ?_
         refine m_q rfl rfl (fun w' hC' => q_skip rfl) ?_
         refine m_q rfl rfl (fun w' hC' => q_skip rfl) ?_
         refine m_q rfl rfl (fun w' hC' => q_skip rfl) ?_
         refine m_q rfl rfl (fun w' hC' => q_skip rfl) ?_
         refine m_q rfl rfl (fun w' hC' => q_skip rfl) ?_
         refine m_q rfl rfl (fun w' hC' => q_skip rfl) ?_
         refine m_q rfl rfl (fun w' hC' => q_skip rfl) ?_
         refine m_q rfl rfl (fun w' hC' => q_skip rfl) ?_
         refine m_q rfl rfl (fun w' hC' => q_skip rfl) ?_
         refine m_q rfl rfl (fun w' hC' => q_pick_f (v := .bool _) rfl rfl rfl) ?_
         refine m_q rfl rfl (fun w' hC' => q_move (v := .bool _) rfl rfl) ?_
         refine m_q rfl rfl (fun w' hC' => q_move (v := .slice _ _ _) rfl rfl) ?_
         refine m_q rfl rfl (fun w' hC' => q_move (v := .int _ _) rfl rfl) ?_
         obtain ⟨b104, o104, ha104, hh104⟩ := (hf45.ext (Ext.of_below hBE)).at1 c2 ((FA.2).getD c2 0) (getD_some (by omega))
         refine m_q rfl rfl (fun w' hC' => q_indexAddr1 Tryz.underlying22 Tryz.sizeOf3 rfl ha104 rfl (by omega) rfl) ?_
         refine m_q rfl rfl (fun w' hC' => q_load Tryz.isAgg3 rfl ((hh104.ext hC')) rfl) ?_
         refine m_q rfl rfl (fun w' hC' => q_geq rfl rfl rfl) ?_
         refine m_q rfl rfl (fun w' hC' => q_move (v := .bool _) rfl rfl) ?_
         have hk105 : (decide (0 ≤ ((FA.2).getD c2 0))) = true := decide_eq_true (by omega)
         refine m_part 205 rfl (fun _ => ?_) (fun hx => absurd (hk105.symm.trans hx) (by decide))
         refine m_q rfl rfl (fun w' hC' => q_move (v := .slice _ _ _) rfl rfl) ?_
         refine m_q rfl rfl (fun w' hC' => q_move (v := .int _ _) rfl rfl) ?_
         obtain ⟨b106, o106, ha106, hh106⟩ := (hf49.ext (Ext.of_below hBE)).at1 c2 ((FB.2).getD c2 0) (getD_some (by omega))
         refine m_q rfl rfl (fun w' hC' => q_indexAddr1 Tryz.underlying22 Tryz.sizeOf3 rfl ha106 rfl (by omega) rfl) ?_
         refine m_q rfl rfl (fun w' hC' => q_load Tryz.isAgg3 rfl ((hh106.ext hC')) rfl) ?_
         refine m_q rfl rfl (fun w' hC' => q_geq rfl rfl rfl) ?_
         refine m_q rfl rfl (fun w' hC' => q_move (v := .bool _) rfl rfl) ?_
         refine m_part 211 rfl (fun hc107 => ?_) (fun hc107 => ?_)
         ·
          replace hc107 := dt hc107
          refine m_q rfl rfl (fun w' hC' => q_move (v := .slice _ _ _) rfl rfl) ?_
          refine m_q rfl rfl (fun w' hC' => q_move (v := .int _ _) rfl rfl) ?_
          obtain ⟨b108, o108, ha108, hh108⟩ := (hf49.ext (Ext.of_below hBE)).at1 c2 ((FB.2).getD c2 0) (getD_some (by omega))
          refine m_q rfl rfl (fun w' hC' => q_indexAddr1 Tryz.underlying22 Tryz.sizeOf3 rfl ha108 rfl (by omega) rfl) ?_
          refine m_q rfl rfl (fun w' hC' => q_load Tryz.isAgg3 rfl ((hh108.ext hC')) rfl) ?_
          refine m_q rfl rfl (fun w' hC' => q_move (v := .slice _ _ _) rfl rfl) ?_
          refine m_q rfl rfl (fun w' hC' => q_move (v := .int _ _) rfl rfl) ?_
          obtain ⟨b109, o109, ha109, hh109⟩ := (hf45.ext (Ext.of_below hBE)).at1 c2 ((FA.2).getD c2 0) (getD_some (by omega))
          refine m_q rfl rfl (fun w' hC' => q_indexAddr1 Tryz.underlying22 Tryz.sizeOf3 rfl ha109 rfl (by omega) rfl) ?_
          refine m_q rfl rfl (fun w' hC' => q_load Tryz.isAgg3 rfl ((hh109.ext hC')) rfl) ?_
          refine m_q rfl rfl (fun w' hC' => q_lss rfl rfl rfl) ?_
          refine m_q rfl rfl (fun w' hC' => q_pick_t (v := .bool _) rfl rfl rfl) ?_
          refine m_q rfl rfl (fun w' hC' => q_move (v := .bool _) rfl rfl) ?_
          have hk110 : (decide (((FB.2).getD c2 0) < ((FA.2).getD c2 0))) = false := by first | rfl | exact decide_eq_false (by omega)
          refine m_part 222 rfl (fun hx => absurd (hk110.symm.trans hx) (by decide)) (fun _ => ?_)
          refine m_q rfl rfl (fun w' hC' => q_move (v := .slice _ _ _) rfl rfl) ?_
          refine m_q rfl rfl (fun w' hC' => q_move (v := .int _ _) rfl rfl) ?_
          obtain ⟨b111, o111, ha111, hh111⟩ := hf83.at1 c2 ((FD.2).getD c2 0) (getD_some (by omega))
          refine m_q rfl rfl (fun w' hC' => q_indexAddr1 Tryz.underlying22 Tryz.sizeOf3 rfl ha111 rfl (by omega) rfl) ?_
          refine m_q rfl rfl (fun w' hC' => q_load Tryz.isAgg3 rfl ((hh111.ext hC')) rfl) ?_
          refine m_q rfl rfl (fun w' hC' => q_geq rfl rfl rfl) ?_
          refine m_q rfl rfl (fun w' hC' => q_move (v := .bool _) rfl rfl) ?_
          refine m_part 228 rfl (fun hc112 => ?_) (fun hc112 => ?_)
          ·
           replace hc112 := dt hc112
           refine m_q rfl rfl (fun w' hC' => q_move (v := .slice _ _ _) rfl rfl) ?_
           refine m_q rfl rfl (fun w' hC' => q_move (v := .int _ _) rfl rfl) ?_
           obtain ⟨b113, o113, ha113, hh113⟩ := hf83.at1 c2 ((FD.2).getD c2 0) (getD_some (by omega))
           refine m_q rfl rfl (fun w' hC' => q_indexAddr1 Tryz.underlying22 Tryz.sizeOf3 rfl ha113 rfl (by omega) rfl) ?_
           refine m_q rfl rfl (fun w' hC' => q_load Tryz.isAgg3 rfl ((hh113.ext hC')) rfl) ?_
           refine m_q rfl rfl (fun w' hC' => q_move (v := .slice _ _ _) rfl rfl) ?_
           refine m_q rfl rfl (fun w' hC' => q_move (v := .int _ _) rfl rfl) ?_
           obtain ⟨b114, o114, ha114, hh114⟩ := (hf45.ext (Ext.of_below hBE)).at1 c2 ((FA.2).getD c2 0) (getD_some (by omega))
           refine m_q rfl rfl (fun w' hC' => q_indexAddr1 Tryz.underlying22 Tryz.sizeOf3 rfl ha114 rfl (by omega) rfl) ?_
           refine m_q rfl rfl (fun w' hC' => q_load Tryz.isAgg3 rfl ((hh114.ext hC')) rfl) ?_
           refine m_q rfl rfl (fun w' hC' => q_lss rfl rfl rfl) ?_
           refine m_q rfl rfl (fun w' hC' => q_pick_t (v := .bool _) rfl rfl rfl) ?_
           refine m_q rfl rfl (fun w' hC' => q_pick_f (v := .bool _) rfl rfl rfl) ?_
           refine m_q rfl rfl (fun w' hC' => q_pick_t (v := .bool _) rfl rfl rfl) ?_
           refine m_q rfl rfl (fun w' hC' => q_pick_f (v := .bool _) rfl rfl rfl) ?_
           refine m_nil ?_
           refine r_forget [(16, .slice _ _ _), (18, .slice _ _ _), (23, .slice _ _ _), (25, .int _ _), (241, .bool _)] ⟨rfl, rfl, rfl, rfl, rfl, trivial⟩ (fun e115 => ?_)
           have hk116 : (decide (((FD.2).getD c2 0) < ((FA.2).getD c2 0))) = false := by first | rfl | exact decide_eq_false (by omega)
           refine r_cond_f ((congrArg Value.bool hk116 : Value.bool _ = _)) ?_
           refine r_skip (r_inBlock (r_region' ?_))
           refine l_q (q_move (v := .int _ _) rfl rfl) ?_
           refine l_q (q_add rfl rfl (by omega) rfl) ?_
           refine l_q (q_assign (v := .int _ _) rfl rfl) ?_
           refine l_nil ?_
           exact ih92 (c2 + 1) _ _ ⟨⟨rfl, rfl, rfl, by first | rfl | exact vint_eq (by omega), trivial⟩, (by omega), hBE, hos51, hoM, he, hpo82, hf83, hsz, hB⟩ (by first | omega | (dsimp only; omega))
          ·
           replace hc112 := dle hc112
           refine m_q rfl rfl (fun w' hC' => q_skip rfl) ?_
           refine m_q rfl rfl (fun w' hC' => q_skip rfl) ?_
           refine m_q rfl rfl (fun w' hC' => q_skip rfl) ?_
           refine m_q rfl rfl (fun w' hC' => q_skip rfl) ?_
           refine m_q rfl rfl (fun w' hC' => q_skip rfl) ?_
           refine m_q rfl rfl (fun w' hC' => q_skip rfl) ?_
           refine m_q rfl rfl (fun w' hC' => q_skip rfl) ?_
           refine m_q rfl rfl (fun w' hC' => q_skip rfl) ?_
           refine m_q rfl rfl (fun w' hC' => q_skip rfl) ?_
           refine m_q rfl rfl (fun w' hC' => q_pick_f (v := .bool _) rfl rfl rfl) ?_
           refine m_q rfl rfl (fun w' hC' => q_pick_f (v := .bool _) rfl rfl rfl) ?_
           refine m_q rfl rfl (fun w' hC' => q_pick_t (v := .bool _) rfl rfl rfl) ?_
           refine m_q rfl rfl (fun w' hC' => q_pick_f (v := .bool _) rfl rfl rfl) ?_
           refine m_nil ?_
           refine r_forget [(16, .slice _ _ _), (18, .slice _ _ _), (23, .slice _ _ _), (25, .int _ _), (241, .bool _)] ⟨rfl, rfl, rfl, rfl, rfl, trivial⟩ (fun e117 => ?_)
           refine r_cond_f rfl ?_
           refine r_skip (r_inBlock (r_region' ?_))
           refine l_q (q_move (v := .int _ _) rfl rfl) ?_
           refine l_q (q_add rfl rfl (by omega) rfl) ?_
           refine l_q (q_assign (v := .int _ _) rfl rfl) ?_
           refine l_nil ?_
           exact ih92 (c2 + 1) _ _ ⟨⟨rfl, rfl, rfl, by first | rfl | exact vint_eq (by omega), trivial⟩, (by omega), hBE, hos51, hoM, he, hpo82, hf83, hsz, hB⟩ (by first | omega | (dsimp only; omega))
         ·
          replace hc107 := dle hc107
          refine m_q rfl rfl (fun w' hC' => q_skip rfl) ?_
          refine m_q rfl rfl (fun w' hC' => q_skip rfl) ?_
          refine m_q rfl rfl (fun w' hC' => q_skip rfl) ?_
          refine m_q rfl rfl (fun w' hC' => q_skip rfl) ?_
          refine m_q rfl rfl (fun w' hC' => q_skip rfl) ?_
          refine m_q rfl rfl (fun w' hC' => q_skip rfl) ?_
          refine m_q rfl rfl (fun w' hC' => q_skip rfl) ?_
          refine m_q rfl rfl (fun w' hC' => q_skip rfl) ?_
          refine m_q rfl rfl (fun w' hC' => q_skip rfl) ?_
          refine m_q rfl rfl (fun w' hC' => q_pick_f (v := .bool _) rfl rfl rfl) ?_
          refine m_q rfl rfl (fun w' hC' => q_move (v := .bool _) rfl rfl) ?_
          refine m_q rfl rfl (fun w' hC' => q_move (v := .slice _ _ _) rfl rfl) ?_
          refine m_q rfl rfl (fun w' hC' => q_move (v := .int _ _) rfl rfl) ?_
          obtain ⟨b118, o118, ha118, hh118⟩ := hf83.at1 c2 ((FD.2).getD c2 0) (getD_some (by omega))
          refine m_q rfl rfl (fun w' hC' => q_indexAddr1 Tryz.underlying22 Tryz.sizeOf3 rfl ha118 rfl (by omega) rfl) ?_
          refine m_q rfl rfl (fun w' hC' => q_load Tryz.isAgg3 rfl ((hh118.ext hC')) rfl) ?_
          refine m_q rfl rfl (fun w' hC' => q_geq rfl rfl rfl) ?_
          refine m_q rfl rfl (fun w' hC' => q_move (v := .bool _) rfl rfl) ?_
          refine m_part 228 rfl (fun hc119 => ?_) (fun hc119 => ?_)
          ·
           replace hc119 := dt hc119
           refine m_q rfl rfl (fun w' hC' => q_move (v := .slice _ _ _) rfl rfl) ?_
           refine m_q rfl rfl (fun w' hC' => q_move (v := .int _ _) rfl rfl) ?_
           obtain ⟨b120, o120, ha120, hh120⟩ := hf83.at1 c2 ((FD.2).getD c2 0) (getD_some (by omega))
           refine m_q rfl rfl (fun w' hC' => q_indexAddr1 Tryz.underlying22 Tryz.sizeOf3 rfl ha120 rfl (by omega) rfl) ?_
           refine m_q rfl rfl (fun w' hC' => q_load Tryz.isAgg3 rfl ((hh120.ext hC')) rfl) ?_
           refine m_q rfl rfl (fun w' hC' => q_move (v := .slice _ _ _) rfl rfl) ?_
           refine m_q rfl rfl (fun w' hC' => q_move (v := .int _ _) rfl rfl) ?_
           obtain ⟨b121, o121, ha121, hh121⟩ := (hf45.ext (Ext.of_below hBE)).at1 c2 ((FA.2).getD c2 0) (getD_some (by omega))
           refine m_q rfl rfl (fun w' hC' => q_indexAddr1 Tryz.underlying22 Tryz.sizeOf3 rfl ha121 rfl (by omega) rfl) ?_
           refine m_q rfl rfl (fun w' hC' => q_load Tryz.isAgg3 rfl ((hh121.ext hC')) rfl) ?_
           refine m_q rfl rfl (fun w' hC' => q_lss rfl rfl rfl) ?_
           refine m_q rfl rfl (fun w' hC' => q_pick_t (v := .bool _) rfl rfl rfl) ?_
           refine m_q rfl rfl (fun w' hC' => q_pick_f (v := .bool _) rfl rfl rfl) ?_
           refine m_q rfl rfl (fun w' hC' => q_pick_t (v := .bool _) rfl rfl rfl) ?_
           refine m_q rfl rfl (fun w' hC' => q_pick_f (v := .bool _) rfl rfl rfl) ?_
           refine m_nil ?_
           refine r_forget [(16, .slice _ _ _), (18, .slice _ _ _), (23, .slice _ _ _), (25, .int _ _), (241, .bool _)] ⟨rfl, rfl, rfl, rfl, rfl, trivial⟩ (fun e122 => ?_)
           have hk123 : (decide (((FD.2).getD c2 0) < ((FA.2).getD c2 0))) = false := by first | rfl | exact decide_eq_false (by omega)
           refine r_cond_f ((congrArg Value.bool hk123 : Value.bool _ = _)) ?_
           refine r_skip (r_inBlock (r_region' ?_))
           refine l_q (q_move (v := .int _ _) rfl rfl) ?_
           refine l_q (q_add rfl rfl (by omega) rfl) ?_
           refine l_q (q_assign (v := .int _ _) rfl rfl) ?_
           refine l_nil ?_
           exact ih92 (c2 + 1) _ _ ⟨⟨rfl, rfl, rfl, by first | rfl | exact vint_eq (by omega), trivial⟩, (by omega), hBE, hos51, hoM, he, hpo82, hf83, hsz, hB⟩ (by first | omega | (dsimp only; omega))
          ·
           replace hc119 := dle hc119
           refine m_q rfl rfl (fun w' hC' => q_skip rfl) ?_
           refine m_q rfl rfl (fun w' hC' => q_skip rfl) ?_
           refine m_q rfl rfl (fun w' hC' => q_skip rfl) ?_
           refine m_q rfl rfl (fun w' hC' => q_skip rfl) ?_
           refine m_q rfl rfl (fun w' hC' => q_skip rfl) ?_
           refine m_q rfl rfl (fun w' hC' => q_skip rfl) ?_
           refine m_q rfl rfl (fun w' hC' => q_skip rfl) ?_
           refine m_q rfl rfl (fun w' hC' => q_skip rfl) ?_
           refine m_q rfl rfl (fun w' hC' => q_skip rfl) ?_
           refine m_q rfl rfl (fun w' hC' => q_pick_f (v := .bool _) rfl rfl rfl) ?_
           refine m_q rfl rfl (fun w' hC' => q_pick_f (v := .bool _) rfl rfl rfl) ?_
           refine m_q rfl rfl (fun w' hC' => q_pick_t (v := .bool _) rfl rfl rfl) ?_
           refine m_q rfl rfl (fun w' hC' => q_pick_f (v := .bool _) rfl rfl rfl) ?_
           refine m_nil ?_
           refine r_forget [(16, .slice _ _ _), (18, .slice _ _ _), (23, .slice _ _ _), (25, .int _ _), (241, .bool _)] ⟨rfl, rfl, rfl, rfl, rfl, trivial⟩ (fun e124 => ?_)
           refine r_cond_f rfl ?_
           refine r_skip (r_inBlock (r_region' ?_))
           refine l_q (q_move (v := .int _ _) rfl rfl) ?_
           refine l_q (q_add rfl rfl (by omega) rfl) ?_
           refine l_q (q_assign (v := .int _ _) rfl rfl) ?_
           refine l_nil ?_
           exact ih92 (c2 + 1) _ _ ⟨⟨rfl, rfl, rfl, by first | rfl | exact vint_eq (by omega), trivial⟩, (by omega), hBE, hos51, hoM, he, hpo82, hf83, hsz, hB⟩ (by first | omega | (dsimp only; omega))
       ·
        replace hc93 := dlt hc93
        refine r_exit rfl ?_
        refine r_seq (r_region' ?_)
        refine l_o (o_call Tryz.call17 rfl (awake_ret _) rfl ?_)
        rintro _ w125 ⟨rfl, hE125⟩
        replace hB := below_ext hB hE125 hsz
        replace hsz := Nat.le_trans hsz hE125.size
        refine l_q (q_assign (v := .bool _) rfl rfl) ?_
        refine l_nil ?_
        refine r_ret_ (vs := [.bool _]) rfl Tryz.func8 rfl (.nil _) ⟨rfl, trivial⟩ ?_
        exact ⟨rfl, Ext.of_below hB⟩
end Go.Proofs.YtgdanglidienmaaGreat
