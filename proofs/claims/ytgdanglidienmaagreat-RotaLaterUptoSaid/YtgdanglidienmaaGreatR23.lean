/- Contracts. -/
import Derived.Test.YtgdanglidienmaaGreatRT
import Derived.Test.YtgdanglidienmaaGreatGvPut
set_option linter.unusedVariables false
set_option linter.unusedSimpArgs false
namespace Go.Proofs.YtgdanglidienmaaGreat
open Go Go.RowKit Go.Gv Go.Fl

/-- every watch's list so far: done ahead of wt, up to i at wt, empty behind it -/
def MkOK (p wt i : Nat) (T : List (List Int)) : Prop := ∀ k, k < T.length → risB (T.getD k []) ((if k < wt then p else if k = wt then i else 0 : Nat) : Int) = true
theorem ris_mono {l : List Int} {a b : Int} (h : risB l a = true) (hab : a ≤ b) : risB l b = true := by
  rw [ris_iff] at h ⊢
  exact ⟨h.1, fun x hx => ⟨(h.2 x hx).1, by have := (h.2 x hx).2; omega⟩⟩
theorem mk_zero {p n : Nat} : MkOK p 0 0 (List.replicate n (([] : List Int))) := fun k hk => by
  rw [List.length_replicate] at hk
  rw [List.getD_eq_getElem?_getD, List.getElem?_replicate, if_pos hk]
  exact ris_iff.2 ⟨List.Pairwise.nil, by simp⟩
theorem mk_step {p wt i : Nat} {T : List (List Int)} (h : MkOK p wt i T) : MkOK p wt (i + 1) T := fun k hk => ris_mono (h k hk) (by split <;> (try split) <;> omega)
theorem mk_row {p wt i : Nat} {T : List (List Int)} (h : MkOK p wt i T) (hi : i ≤ p) : MkOK p (wt + 1) 0 T := fun k hk => ris_mono (h k hk) (by split <;> split <;> (try split) <;> (try split) <;> omega)
theorem mk_take {p wt i : Nat} {T : List (List Int)} (h : MkOK p wt i T) (hi : i < p) (hw : wt < T.length) : MkOK p wt (i + 1) (T.set wt (T.getD wt [] ++ [(i : Int)])) := fun k hk => by
  rw [List.length_set] at hk
  have h1 := h k hk
  rw [List.getD_eq_getElem?_getD, List.getElem?_set]
  by_cases hkw : wt = k
  · subst hkw
    rw [if_pos rfl, if_pos hw]
    rw [if_neg (by omega), if_pos rfl] at h1 ⊢
    rw [ris_iff] at h1 ⊢
    show (T.getD wt [] ++ [(i : Int)]).Pairwise (· < ·) ∧ _
    rw [List.pairwise_append]
    refine ⟨⟨h1.1, List.pairwise_singleton _ _, fun x hx y hy => ?_⟩, fun x hx => ?_⟩
    · have := (h1.2 x hx).2
      have : y = i := by simpa using hy
      omega
    · rcases List.mem_append.1 hx with h2 | h2
      · have := h1.2 x h2; omega
      · have : x = i := by simpa using h2
        omega
  · rw [if_neg hkw, ← List.getD_eq_getElem?_getD]
    exact ris_mono h1 (by split <;> (try split) <;> omega)
theorem mk_end {p wt : Nat} {T : List (List Int)} (h : MkOK p wt 0 T) (hw : T.length ≤ wt) : ∀ on ∈ T, risB on (p : Int) = true := fun on hon => by
  obtain ⟨k, hk, rfl⟩ := List.mem_iff_getElem.1 hon
  have := h k hk
  rw [if_pos (by omega), List.getD_eq_getElem?_getD, List.getElem?_eq_getElem hk] at this
  exact this
theorem mk_small {p wt i : Nat} {T : List (List Int)} (h : MkOK p wt i T) (hi : i ≤ p) (hp : p ≤ 4) : ∀ on ∈ T, on.length ≤ 4 := fun on hon => by
  obtain ⟨k, hk, rfl⟩ := List.mem_iff_getElem.1 hon
  have h1 := ris_len (ris_mono (b := (p : Int)) (h k hk) (by split <;> (try split) <;> omega))
  rw [List.getD_eq_getElem?_getD, List.getElem?_eq_getElem hk] at h1
  exact Nat.le_trans h1 hp
theorem mul_small {a b : Nat} (ha : a ≤ 5) (hb : b ≤ 4) : 0 ≤ (a : Int) * (b : Int) ∧ (a : Int) * (b : Int) ≤ 20 := by
  have := Nat.mul_le_mul ha hb
  omega
theorem owns_repl (w : World) (B el n : Nat) : OwnsI w B el (List.replicate n sv0) := fun s hs => by
  obtain rfl := (List.mem_replicate.1 hs).2
  exact World.ownsRow_nil _ _ _ _

theorem isr_small {nd : List Int} {p : Nat} {M : List SV} (h : IsR nd p (M.map (·.xs))) (h5 : nd.length ≤ 5) (h4 : p ≤ 4) : M.length ≤ 2097152 ∧ ∀ s ∈ M, s.xs.length ≤ 2097152 :=
  rows_small (R := M) rfl ⟨by rw [h.1]; omega, fun t ht => by have := ris_len (h.2 t ht); omega⟩
theorem isr_len {nd : List Int} {p : Nat} {M : List SV} (h : IsR nd p (M.map (·.xs))) : M.length = nd.length := by have := h.1; rwa [List.length_map] at this
theorem bst_none {nd : List Int} {pl : List PV} {L : List SV} (hok : faultP (po nd pl L) = 0) (h : ¬ (bestR nd pl L).2.2 = 0) : ∀ R, IsR nd pl.length R → chn nd pl (L.map (·.xs)) 0 stood0 R = false := by
  rcases best_spec hok with ⟨_, h2⟩ | ⟨R, h1, _⟩
  · exact h2
  · rw [h1] at h; exact absurd rfl h


theorem rowsd10_ret (ra : Option Addr) (rc : Nat) (R : List SV) (w : World) (hR : Row w ra R.length rc 1 (R.map SV.enc)) (hRr : RowsI w R) (hRl : R.length ≤ 2097152) (hRx : ∀ s ∈ R, s.xs.length ≤ 2097152) : Ret Tryz.prog 21 [.slice ra R.length rc] w (fun v w' => ∃ oa oc L2, v = .slice oa L2.length oc ∧ w'.ownsRow w.heap.size 22 1 (.slice oa L2.length oc) L2.length (L2.map SV.enc) ∧ OwnsI w' w.heap.size 3 L2 ∧ L2.map (·.xs) = (R.map (·.xs)) ∧ Dis L2 ∧ Ext w w') := by
 have hB := Below.refl w.heap.size w
 have hsz : w.heap.size ≤ w.heap.size := Nat.le_refl _
 refine ret_of_runs (args := [_]) Tryz.func21 rfl (Nat.le_of_ble_eq_true rfl) (by kernel_rfl) ?_
 refine r_seq (r_region' ?_)
 refine l_q (q_assign (v := .slice _ _ _) rfl rfl) ?_
 refine l_nil (r_seq (r_region' ?_))
 refine l_q (q_assign (v := .slice _ _ _) rfl rfl) ?_
 refine l_nil (r_seq (r_seq (r_region' ?_)))
 refine l_q (q_assign (v := .int _ _) rfl rfl) ?_
 refine l_nil (r_block ?_)
 refine r_rounds (α := Nat × (Option Addr) × Nat × (List SV)) (fun ⟨k, oa, oc, M⟩ e wl => Knows e [(0, .slice ra R.length rc), (3, .slice oa ((M).length) oc), (4, vint (k : Int))] ∧ (k ≤ R.length) ∧ (M.map (·.xs) = (R.map (·.xs)).take k) ∧ (M.length = k) ∧ (Dis M) ∧ (wl.ownsRow w.heap.size 22 1 (.slice oa ((M).length) oc) ((M).length) ((M).map SV.enc)) ∧ (OwnsI wl w.heap.size 3 M) ∧ (w.heap.size ≤ wl.heap.size) ∧ (Below w.heap.size w wl)) (fun ⟨k, oa, oc, M⟩ => R.length - k) (0, none, 0, []) ?_ ?_
 ·
  exact ⟨⟨rfl, rfl, rfl, trivial⟩, (Nat.zero_le _), rfl, rfl, Dis.nil, (World.ownsRow_nil _ _ _ _), (OwnsI.nil _ _ _), hsz, hB⟩
 ·
  rintro ⟨k, oa, oc, M⟩ el1 wl1 ⟨hkn, hk, hM, hMl, hd, hw, hos, hsz, hB⟩ ih1
  obtain ⟨e1, rfl⟩ := knows_env hkn
  refine r_seq (r_seq (r_region' ?_))
  refine l_q (q_move (v := .int _ _) rfl rfl) ?_
  refine l_q (q_move (v := .slice _ _ _) rfl rfl) ?_
  refine l_q (q_len rfl Tryz.underlying24 rfl rfl) ?_
  refine l_q (q_lss rfl rfl rfl) ?_
  refine l_nil ?_
  refine r_cond rfl (fun hc2 => ?_) (fun hc2 => ?_)
  ·
   replace hc2 := dt hc2
   have hkR : k < R.length := by omega
   have hel := hRx _ (getD_lt (d := sv0) hkR)
   refine r_skip (r_seq (r_block ?_))
   have hszR : w.heap.size ≤ wl1.heap.size := hsz
   have hu := OwnsI.under hos
   have hszW := Nat.le_refl wl1.heap.size
   refine r_region' ?_
   refine l_q (q_move (v := .slice _ _ _) rfl rfl) ?_
   refine l_q (q_move (v := .slice _ _ _) rfl rfl) ?_
   refine l_q (q_move (v := .int _ _) rfl rfl) ?_
   obtain ⟨b3, o3, ha3, hh3⟩ := (hR.below hB).at1 k ((R).getD k sv0) (getD_some (by omega))
   refine l_q (q_indexAddr1 Tryz.underlying24 Tryz.sizeOf22 rfl ha3 rfl (by omega) rfl) ?_
   refine l_q (q_load Tryz.isAgg22 rfl (hh3) rfl) ?_
   refine l_o (o_call Tryz.call33 rfl (list10_ret _ _ (((R).getD k sv0).xs) _ ((RowsI.get (hRr) (i := k) (by omega)).below hB) (by omega)) rfl ?_)
   rintro _ w4 ⟨a4_0, c4_0, rfl, ho4_0, hE4⟩
   replace ho4_0 := own_mono ho4_0 (show wl1.heap.size ≤ _ by omega)
   replace hB := below_ext hB hE4 hsz
   replace hw := own_ext hw hE4
   replace hos := hos.ext hE4
   replace hszW := Nat.le_trans hszW hE4.size
   replace hsz := Nat.le_trans hsz hE4.size
   refine l_o (o_buildSlice (el := 22) (cs := [.slice a4_0 (((((R).getD k sv0).xs)).length) c4_0]) Tryz.underlying24 el22 (by decide) (by kernel_rfl) rfl (by decide) rfl ?_)
   intro b5 w5 hzl5 hzr5 _ hb5 hE5 ho5
   have hbs_b5 : w.heap.size ≤ b5 := Nat.le_trans hsz hzl5
   have hWp_b5 := hszW
   have hbW_b5 := Nat.le_trans hszW hzl5
   replace hB := below_ext hB hE5 hsz
   replace hw := own_ext hw hE5
   replace hos := hos.ext hE5
   replace hszW := Nat.le_trans hszW hE5.size
   replace ho4_0 := own_ext ho4_0 hE5
   replace hsz := Nat.le_trans hsz hE5.size
   replace ho5 := own_mono ho5 (show wl1.heap.size ≤ _ by omega)
   have hos5 : OwnsI w5 wl1.heap.size 3 [⟨a4_0, c4_0, (((R).getD k sv0).xs)⟩] := OwnsI.snoc (OwnsI.nil _ _ _) (own_mono ho4_0 (by omega))
   refine l_o (o_append_map (f := SV.enc) (M) ([⟨a4_0, c4_0, (((R).getD k sv0).xs)⟩]) Tryz.underlying24 el22 rfl rfl hw rfl (Row.of_owns ho5) (fun _ => rfl) (by (try simp only [List.length_append, List.length_cons, List.length_nil, List.length_take, List.length_drop, List.length_replicate]); omega) (by omega) rfl ?_)
   intro a6 c6 w6 hz6 ho6 hG6
   replace hB := below_own hB hG6 hw (by omega) hsz
   replace hsz := Nat.le_trans hsz hG6.size
   replace hos := hos.kept hw (by decide) hG6
   replace hszW := Nat.le_trans hszW hG6.size
   replace ho4_0 := own_kept ho4_0 hw (by decide) hG6
   refine l_q (q_assign (v := .slice _ _ _) rfl rfl) ?_
   refine l_nil ?_
   refine r_forget [(0, .slice _ _ _), (3, .slice _ _ _), (4, .int _ _)] ⟨rfl, rfl, rfl, trivial⟩ (fun e7 => ?_)
   refine r_inBlock (r_region' ?_)
   refine l_q (q_move (v := .int _ _) rfl rfl) ?_
   refine l_q (q_add rfl rfl (by omega) rfl) ?_
   refine l_q (q_assign (v := .int _ _) rfl rfl) ?_
   refine l_nil ?_
   exact ih1 (k + 1, a6, c6, M ++ [⟨a4_0, c4_0, (((R).getD k sv0).xs)⟩]) _ _ ⟨⟨rfl, by first | rfl | exact vint_eq (by omega), by first | rfl | exact vint_eq (by omega), trivial⟩, (by omega), (by rw [List.map_append, hM, xs_take hkR]; rfl), (by rw [List.length_append, hMl]; rfl), (Dis.snoc (s := ⟨_, _, _⟩) hd hu ho4_0), ho6, (OwnsI.snoc hos (own_mono ho4_0 (by omega))), hsz, hB⟩ (by first | omega | (dsimp only; omega))
  ·
   replace hc2 := dlt hc2
   refine r_exit rfl ?_
   refine r_seq (r_region' ?_)
   refine l_q (q_move (v := .slice _ _ _) rfl rfl) ?_
   refine l_q (q_assign (v := .slice _ _ _) rfl rfl) ?_
   refine l_nil ?_
   refine r_ret_ (vs := [.slice _ _ _]) rfl Tryz.func21 rfl (.nil _) ⟨rfl, trivial⟩ ?_
   exact ⟨oa, oc, M, rfl, hw, hos, (by rw [hM, List.take_of_length_le (by rw [List.length_map]; omega)]), hd, Ext.of_below hB⟩
theorem word10_ret (wa : Option Addr) (wc : Nat) (ws : List Int) (at_ : Int) (w : World) (hw : Row w wa ws.length wc 1 (ws.map (Value.int .u16))) (hwn : ws.length ≤ 2097152) (hwr : ∀ x ∈ ws, 0 ≤ x ∧ x ≤ 65535) (hat : 0 ≤ at_) : Ret Tryz.prog 41 [.slice wa ws.length wc, vint at_] w (fun v w' => ∃ x : Int, v = vint x ∧ 0 ≤ x ∧ x ≤ 65535 ∧ Ext w w') := by
 have hB := Below.refl w.heap.size w
 have hsz : w.heap.size ≤ w.heap.size := Nat.le_refl _
 refine ret_of_runs (args := [_, _]) Tryz.func41 rfl (Nat.le_of_ble_eq_true rfl) (by kernel_rfl) ?_
 refine r_seq (r_region' ?_)
 refine l_q (q_assign (v := .int _ _) rfl rfl) ?_
 refine l_nil (r_seq (r_seq (r_region' ?_)))
 refine l_q (q_move (v := .slice _ _ _) rfl rfl) ?_
 refine l_q (q_len rfl Tryz.underlying68 rfl rfl) ?_
 refine l_q (q_eql rfl rfl rfl) ?_
 refine l_nil ?_
 refine r_cond rfl (fun hc1 => ?_) (fun hc1 => ?_)
 ·
  replace hc1 := dt hc1
  refine r_seq (r_region' ?_)
  refine l_q (q_assign (v := .int _ _) rfl rfl) ?_
  refine l_nil ?_
  refine r_ret_ (vs := [.int _ _]) rfl Tryz.func41 rfl (.nil _) ⟨rfl, trivial⟩ ?_
  exact ⟨0, rfl, by decide, by decide, Ext.of_below hB⟩
 ·
  replace hc1 := df hc1
  refine r_skip (r_seq ?_)
  have ha1 := Int.emod_nonneg at_ (show (ws.length : Int) ≠ 0 by omega)
  have ha2 := Int.emod_lt_of_pos at_ (show (0 : Int) < ws.length by omega)
  have hwx := hwr _ (getD_lt (l := ws) (d := 0) (i := (at_ % (ws.length : Int)).toNat) (by omega))
  refine r_region' ?_
  refine l_q (q_move (v := .slice _ _ _) rfl rfl) ?_
  refine l_q (q_move (v := .int _ _) rfl rfl) ?_
  refine l_q (q_move (v := .slice _ _ _) rfl rfl) ?_
  refine l_q (q_len rfl Tryz.underlying68 rfl rfl) ?_
  refine l_q (q_rem rfl rfl (by omega) rfl) ?_
  obtain ⟨b2, o2, ha2, hh2⟩ := (hw.below hB).at1 (at_ % (ws.length : Int)).toNat ((ws).getD (at_ % (ws.length : Int)).toNat 0) (getD_some (by omega))
  refine l_q (q_indexAddr1 Tryz.underlying68 Tryz.sizeOf155 rfl ha2 rfl (by omega) rfl) ?_
  refine l_q (q_load Tryz.isAgg155 rfl (hh2) rfl) ?_
  refine l_q (q_toInt Tryz.underlying155 Tryz.underlying3 rfl (by omega) rfl) ?_
  refine l_q (q_assign (v := .int _ _) rfl rfl) ?_
  refine l_nil ?_
  refine r_forget [(4, .int _ _)] ⟨rfl, trivial⟩ (fun e3 => ?_)
  refine r_ret_ (vs := [.int _ _]) rfl Tryz.func41 rfl (.nil _) ⟨rfl, trivial⟩ ?_
  exact ⟨_, rfl, hwx.1, hwx.2, Ext.of_below hB⟩
theorem made10_ret (na : Option Addr) (nc : Nat) (nd : List Int) (pa : Option Addr) (pc : Nat) (pl : List PV) (ca : Option Addr) (cc : Nat) (L : List SV) (wa : Option Addr) (wc : Nat) (ws : List Int) (w : World) (hpo : PoAt w na nc nd pa pc pl ca cc L) (hbg : PoBig nd pl L) (hok : faultP (po nd pl L) = 0) (hwd : Row w wa ws.length wc 1 (ws.map (Value.int .u16))) (hwn : ws.length ≤ 2097152) (hwr : ∀ x ∈ ws, 0 ≤ x ∧ x ≤ 65535) : Ret Tryz.prog 43 [.agg ⟨[.slice na nd.length nc, .slice pa pl.length pc, .slice ca L.length cc]⟩, .slice wa ws.length wc] w (fun v w' => ∃ oa oc M, v = .slice oa (List.length M) oc ∧ w'.ownsRow w.heap.size 22 1 (.slice oa (List.length M) oc) (List.length M) (M.map SV.enc) ∧ OwnsI w' w.heap.size 3 M ∧ IsR nd pl.length (M.map (·.xs)) ∧ Ext w w') := by
 obtain ⟨hnl, hpll, hLl, hLs, hPb⟩ := id hbg
 obtain ⟨⟨hn1, hn5⟩, ⟨hp1, hp4⟩, hL4, hnn, hpp, hLL⟩ := po_ok hok
 have hB := Below.refl w.heap.size w
 have hsz : w.heap.size ≤ w.heap.size := Nat.le_refl _
 refine ret_of_runs (args := [_, _]) Tryz.func43 rfl (Nat.le_of_ble_eq_true rfl) (by kernel_rfl) ?_
 refine r_seq (r_region' ?_)
 refine l_o (o_boxt rfl rfl rfl ?_)
 intro b1 w1 hzl1 hzr1 _ hb1 hty_b1 hE1
 have hbs_b1 : w.heap.size ≤ b1 := Nat.le_trans hsz hzl1
 replace hB := below_ext hB hE1 hsz
 replace hsz := Nat.le_trans hsz hE1.size
 refine l_q (q_assign (v := .slice _ _ _) rfl rfl) ?_
 refine l_nil (r_seq (r_region' ?_))
 refine l_q (q_fieldAddr (o' := 0) rfl fld26_0 rfl) ?_
 refine l_q (q_load Tryz.isAgg22 rfl ((hb1.has (o := 0) rfl)) rfl) ?_
 refine l_q (q_len rfl Tryz.underlying22 rfl rfl) ?_
 refine l_o (o_makeSlice (n := nd.length) Tryz.underlying24 el22 (rfl) (rfl) (by omega) (by unfold maxLen; omega) rfl ?_)
 intro b2 w2 hzl2 hzr2 _ hb2 hE2 ho2
 rw [made_one _ _ rfl] at hb2 ho2
 have hne_b1_b2 : b1 ≠ b2 := by have := hb1.lt; omega
 have hbs_b2 : w.heap.size ≤ b2 := Nat.le_trans hsz hzl2
 replace hB := below_ext hB hE2 hsz
 replace hb1 := hb1.ext hE2
 replace hty_b1 := hty_b1.ext hE2
 replace hsz := Nat.le_trans hsz hE2.size
 replace ho2 : w2.ownsRow w1.heap.size 22 1 (.slice (some ⟨b2, 0, none⟩) nd.length nd.length) nd.length ((List.replicate nd.length sv0).map SV.enc) := by rw [List.map_replicate]; exact ho2
 refine l_q (q_assign (v := .slice _ _ _) rfl rfl) ?_
 refine l_nil (r_seq (r_seq (r_region' ?_)))
 refine l_q (q_assign (v := .int _ _) rfl rfl) ?_
 refine l_nil (r_block ?_)
 refine r_rounds (α := Nat × (Option Addr) × Nat × (List SV)) (fun ⟨wt, oa, oc, M⟩ e wl => Knows e [(1, .slice wa ws.length wc), (2, ptr b1 0), (5, .slice oa ((M).length) oc), (6, vint (wt : Int))] ∧ (wt ≤ nd.length) ∧ (M.length = nd.length) ∧ (MkOK pl.length wt 0 (M.map (·.xs))) ∧ (wl.ownsRow w.heap.size 22 1 (.slice oa ((M).length) oc) ((M).length) ((M).map SV.enc)) ∧ (OwnsI wl w.heap.size 3 M) ∧ (Blk wl b1 [.slice na nd.length nc, .slice pa pl.length pc, .slice ca L.length cc]) ∧ (TyAt wl b1 26) ∧ (w.heap.size ≤ wl.heap.size) ∧ (Below w.heap.size w wl)) (fun ⟨wt, oa, oc, M⟩ => nd.length - wt) (0, some ⟨b2, 0, none⟩, nd.length, (List.replicate nd.length sv0)) ?_ ?_
 ·
  exact ⟨⟨rfl, rfl, (by rw [List.length_replicate]; rfl), rfl, trivial⟩, (Nat.zero_le _), List.length_replicate, (by rw [List.map_replicate]; exact mk_zero), (by rw [List.length_replicate]; exact own_mono ho2 (by omega)), (owns_repl _ _ _ _), hb1, hty_b1, hsz, hB⟩
 ·
  rintro ⟨wt, oa, oc, M⟩ el3 wl3 ⟨hkn, hwt, hMl, hmk, ho, hos, hb1, hty_b1, hsz, hB⟩ ih3
  obtain ⟨e3, rfl⟩ := knows_env hkn
  refine r_seq (r_seq (r_region' ?_))
  refine l_q (q_move (v := .int _ _) rfl rfl) ?_
  refine l_q (q_move (v := .slice _ _ _) rfl rfl) ?_
  refine l_q (q_len rfl Tryz.underlying24 rfl rfl) ?_
  refine l_q (q_lss rfl rfl rfl) ?_
  refine l_nil ?_
  refine r_cond rfl (fun hc4 => ?_) (fun hc4 => ?_)
  ·
   replace hc4 := dt hc4
   have hwn2 : wt < nd.length := by omega
   refine r_skip (r_seq (r_block (r_seq (r_region' ?_))))
   refine l_q (q_assign (v := .int _ _) rfl rfl) ?_
   refine l_nil (r_block ?_)
   refine r_rounds (α := Nat × (Option Addr) × Nat × (List SV)) (fun ⟨i, oa, oc, M⟩ e wl => Knows e [(1, .slice wa ws.length wc), (2, ptr b1 0), (5, .slice oa ((M).length) oc), (6, vint (wt : Int)), (7, vint (i : Int))] ∧ (i ≤ pl.length) ∧ (M.length = nd.length) ∧ (MkOK pl.length wt i (M.map (·.xs))) ∧ (wl.ownsRow w.heap.size 22 1 (.slice oa ((M).length) oc) ((M).length) ((M).map SV.enc)) ∧ (OwnsI wl w.heap.size 3 M) ∧ (Blk wl b1 [.slice na nd.length nc, .slice pa pl.length pc, .slice ca L.length cc]) ∧ (TyAt wl b1 26) ∧ (w.heap.size ≤ wl.heap.size) ∧ (Below w.heap.size w wl)) (fun ⟨i, oa, oc, M⟩ => pl.length - i) (0, oa, oc, M) ?_ ?_
   ·
    exact ⟨⟨rfl, rfl, rfl, rfl, rfl, trivial⟩, (Nat.zero_le _), hMl, hmk, ho, hos, hb1, hty_b1, hsz, hB⟩
   ·
    rintro ⟨i, oa, oc, M⟩ el5 wl5 ⟨hkn, hi, hMl, hmk, ho, hos, hb1, hty_b1, hsz, hB⟩ ih5
    obtain ⟨e5, rfl⟩ := knows_env hkn
    refine r_seq (r_seq (r_region' ?_))
    refine l_q (q_move (v := .int _ _) rfl rfl) ?_
    refine l_q (q_fieldAddr (o' := 1) rfl fld26_1 rfl) ?_
    refine l_q (q_load Tryz.isAgg23 rfl ((hb1.has (o := 1) rfl)) rfl) ?_
    refine l_q (q_len rfl Tryz.underlying23 rfl rfl) ?_
    refine l_q (q_lss rfl rfl rfl) ?_
    refine l_nil ?_
    refine r_cond rfl (fun hc6 => ?_) (fun hc6 => ?_)
    ·
     replace hc6 := dt hc6
     have hil : i < pl.length := by omega
     refine r_skip (r_seq (r_block (r_seq ?_)))
     have hmu := mul_small (show wt ≤ 5 by omega) hp4
     have hMs := mk_small hmk (by omega) hp4
     refine r_region' ?_
     refine l_q (q_move (v := .slice _ _ _) rfl rfl) ?_
     refine l_q (q_move (v := .int _ _) rfl rfl) ?_
     refine l_q (q_fieldAddr (o' := 1) rfl fld26_1 rfl) ?_
     refine l_q (q_load Tryz.isAgg23 rfl ((hb1.has (o := 1) rfl)) rfl) ?_
     refine l_q (q_len rfl Tryz.underlying23 rfl rfl) ?_
     refine l_q (q_mul rfl rfl (by omega) rfl) ?_
     refine l_q (q_move (v := .int _ _) rfl rfl) ?_
     refine l_q (q_add rfl rfl (by omega) rfl) ?_
     refine l_o (o_call Tryz.call41 rfl (word10_ret _ _ ws _ _ (hwd.below hB) hwn hwr (by omega)) rfl ?_)
     rintro _ w7 ⟨x7, rfl, hx7_0, hx7_1, hE7⟩
     replace hB := below_ext hB hE7 hsz
     replace hb1 := hb1.ext hE7
     replace hty_b1 := hty_b1.ext hE7
     replace ho := own_ext ho hE7
     replace hos := hos.ext hE7
     replace hsz := Nat.le_trans hsz hE7.size
     refine l_q (q_assign (v := .int _ _) rfl rfl) ?_
     refine l_nil ?_
     refine r_forget [(1, .slice _ _ _), (2, .pointer _), (5, .slice _ _ _), (6, .int _ _), (7, .int _ _), (8, .int _ _)] ⟨rfl, rfl, rfl, rfl, rfl, rfl, trivial⟩ (fun e8 => ?_)
     refine r_seq (r_seq (r_region' ?_))
     refine l_q (q_move (v := .int _ _) rfl rfl) ?_
     refine l_q (q_rem rfl rfl (by omega) rfl) ?_
     refine l_q (q_eql rfl rfl rfl) ?_
     refine l_nil ?_
     refine r_cond rfl (fun hc9 => ?_) (fun hc9 => ?_)
     ·
      replace hc9 := dt hc9
      refine r_exit rfl ?_
      refine r_region' ?_
      refine l_q (q_move (v := .int _ _) rfl rfl) ?_
      refine l_q (q_add rfl rfl (by omega) rfl) ?_
      refine l_q (q_assign (v := .int _ _) rfl rfl) ?_
      refine l_nil ?_
      exact ih5 (i + 1, oa, oc, M) _ _ ⟨⟨rfl, rfl, (by first | rfl | (rw [hLSn]; rfl)), rfl, (vint_eq (by omega)), trivial⟩, (by omega), hMl, (mk_step hmk), ho, hos, hb1, hty_b1, hsz, hB⟩ (by first | omega | (dsimp only; omega))
     ·
      replace hc9 := df hc9
      refine r_skip (r_seq ?_)
      have hszR : w.heap.size ≤ w7.heap.size := hsz
      have hszW := Nat.le_refl w7.heap.size
      have hlt_ho := fun g hg => (ho.lt g hg).2
      have hlt_hos := OwnsI.under hos
      refine r_region' ?_
      refine l_q (q_move (v := .slice _ _ _) rfl rfl) ?_
      refine l_o (o_call Tryz.call21 rfl (rowsd10_ret _ _ M _ (Row.of_owns ho) hos.rows (by omega) (fun s hs => Nat.le_trans (hMs _ (List.mem_map.2 ⟨s, hs, rfl⟩)) (by decide))) rfl ?_)
      have hszp10 : w.heap.size ≤ w7.heap.size := hsz
      have hbl_b1 := hb1.lt
      rintro _ w10 ⟨oa10, oc10, L10, rfl, ho10, hos10, hm10, hd10, hE10⟩
      replace ho10 := own_mono ho10 (show w7.heap.size ≤ _ by omega)
      replace hB := below_ext hB hE10 hsz
      replace hb1 := hb1.ext hE10
      replace hty_b1 := hty_b1.ext hE10
      replace ho := own_ext ho hE10
      replace hos := hos.ext hE10
      replace hszW := Nat.le_trans hszW hE10.size
      replace hsz := Nat.le_trans hsz hE10.size
      have hLNl10 : L10.length = M.length := by have := congrArg List.length hm10; rwa [List.length_map, List.length_map] at this
      refine l_q (q_assign (v := .slice _ _ _) rfl rfl) ?_
      refine l_nil (r_seq (r_region' ?_))
      refine l_q (q_move (v := .slice _ _ _) rfl rfl) ?_
      refine l_q (q_move (v := .int _ _) rfl rfl) ?_
      refine l_q (q_move (v := .slice _ _ _) rfl rfl) ?_
      refine l_q (q_move (v := .int _ _) rfl rfl) ?_
      have hr12 := hos10.rows.get (i := wt) (by omega)
      obtain ⟨b11, o11, ha11, hh11⟩ := (Row.of_owns ho10).at1 wt ((L10).getD wt sv0) (getD_some (by omega))
      refine l_q (q_indexAddr1 Tryz.underlying24 Tryz.sizeOf22 rfl ha11 rfl (by omega) rfl) ?_
      refine l_q (q_load Tryz.isAgg22 rfl (hh11) rfl) ?_
      refine l_q (q_move (v := .int _ _) rfl rfl) ?_
      have hbl_b1 := hb1.lt
      refine l_o (o_buildSlice (el := 3) (cs := [vint (i : Int)]) Tryz.underlying22 el3 (by decide) (by kernel_rfl) rfl (by decide) rfl ?_)
      intro b13 w13 hzl13 hzr13 _ hb13 hE13 ho13
      have hne_b1_b13 : b1 ≠ b13 := by have := hb1.lt; omega
      have hbs_b13 : w.heap.size ≤ b13 := Nat.le_trans hsz hzl13
      have hWp_b13 := hszW
      have hbW_b13 := Nat.le_trans hszW hzl13
      replace hB := below_ext hB hE13 hsz
      replace hb1 := hb1.ext hE13
      replace hty_b1 := hty_b1.ext hE13
      replace ho := own_ext ho hE13
      replace hos := hos.ext hE13
      replace hszW := Nat.le_trans hszW hE13.size
      replace ho10 := own_ext ho10 hE13
      replace hos10 := hos10.ext hE13
      replace hsz := Nat.le_trans hsz hE13.size
      replace ho13 := own_mono ho13 (show w7.heap.size ≤ _ by omega)
      have hbl_b1 := hb1.lt
      have hown := hos10 (L10.getD wt sv0) (getD_lt (d := sv0) (show wt < L10.length by omega))
      have hxsl : (L10.getD wt sv0).xs.length ≤ 4 := hMs _ (by rw [← hm10]; exact List.mem_map.2 ⟨_, getD_lt (d := sv0) (show wt < L10.length by omega), rfl⟩)
      refine l_o (o_append_map (f := vint) ((L10.getD wt sv0).xs) ([(i : Int)]) Tryz.underlying22 el3 rfl rfl hown rfl (Row.of_owns ho13) (fun _ => rfl) (by (try simp only [List.length_append, List.length_cons, List.length_nil]); omega) (by omega) rfl ?_)
      intro a14 c14 w14 hz14 ho14 hG14
      have hos14 : OwnsI w14 w7.heap.size 3 ((L10).set wt ⟨a14, c14, (L10.getD wt sv0).xs ++ [(i : Int)]⟩) := OwnsI.set hos10 hd10 (by omega) hG14 ho14
      replace hB := below_own hB hG14 hown (by omega) hsz
      replace hsz := Nat.le_trans hsz hG14.size
      replace hb1 := hb1.step hG14 (own_ty_ne hown hty_b1 (by decide))
      replace ho := own_kept ho hown (by decide) hG14
      replace hos := OwnsI.apart hos hlt_hos hown hG14
      replace hszW := Nat.le_trans hszW hG14.size
      replace ho10 := own_kept ho10 hown (by decide) hG14
      replace hty_b1 := TyAt.own hty_b1 hown hG14 (by decide)
      have hr16 := hos10.rows.get (i := wt) (by omega)
      obtain ⟨b15, o15, ha15, hh15⟩ := (Row.of_owns ho10).at1 wt ((L10).getD wt sv0) (getD_some (by omega))
      refine l_q (q_indexAddr1 Tryz.underlying24 Tryz.sizeOf22 rfl ha15 rfl (by omega) rfl) ?_
      refine l_o (o_store_own (f := SV.enc) L10 wt ⟨a14, c14, (L10.getD wt sv0).xs ++ [(i : Int)]⟩ Tryz.sizeOf22 rfl ha15 rfl rfl (fun _ => rfl) ho10 (by omega) rfl ?_)
      intro w17 hz17 ho17 hG17
      replace hB := below_own hB hG17 ho10 (by omega) hsz
      replace hsz := Nat.le_trans hsz hG17.size
      replace hb1 := hb1.step hG17 (own_ty_ne ho10 hty_b1 (by decide))
      replace ho := own_apart ho hlt_ho ho10 hG17
      replace hos := hos.kept ho10 (by decide) hG17
      replace hszW := Nat.le_trans hszW hG17.size
      replace hos14 := hos14.kept ho10 (by decide) hG17
      replace hty_b1 := TyAt.own hty_b1 ho10 hG17 (by decide)
      replace ho10 := ho17
      have hls17 : ((L10).set wt ⟨a14, c14, (L10.getD wt sv0).xs ++ [(i : Int)]⟩).length = (L10).length := List.length_set
      have hLSn := hls17
      have hT : ((L10).set wt ⟨a14, c14, (L10.getD wt sv0).xs ++ [(i : Int)]⟩).map (·.xs) = (M.map (·.xs)).set wt ((M.map (·.xs)).getD wt [] ++ [(i : Int)]) := by rw [List.map_set, hm10, ← hm10, xs_at]
      have hk2 : MkOK pl.length wt (i + 1) (((L10).set wt ⟨a14, c14, (L10.getD wt sv0).xs ++ [(i : Int)]⟩).map (·.xs)) := by rw [hT]; exact mk_take hmk (by omega) (by rw [List.length_map]; omega)
      have hLSl : ((L10).set wt ⟨a14, c14, (L10.getD wt sv0).xs ++ [(i : Int)]⟩).length = nd.length := by rw [hls17]; omega
      have hLSs := rows_small (R := (L10).set wt ⟨a14, c14, (L10.getD wt sv0).xs ++ [(i : Int)]⟩) rfl ⟨by rw [List.length_map]; omega, fun t ht => Nat.le_trans (mk_small hk2 (by omega) hp4 t ht) (by decide)⟩
      refine l_nil ?_
      refine r_forget [(1, .slice _ _ _), (2, .pointer _), (5, .slice _ _ _), (6, .int _ _), (7, .int _ _), (8, .int _ _), (9, .slice _ _ _)] ⟨rfl, rfl, rfl, rfl, rfl, rfl, rfl, trivial⟩ (fun e18 => ?_)
      refine r_seq (r_region' ?_)
      refine l_q (q_move (v := .int _ _) rfl rfl) ?_
      refine l_q (q_rem rfl rfl (by omega) rfl) ?_
      refine l_q (q_eql rfl rfl rfl) ?_
      refine l_q (q_move (v := .bool _) rfl rfl) ?_
      refine l_part 54 rfl (fun hc19 => ?_) (fun hc19 => ?_)
      ·
       replace hc19 := dt hc19
       refine l_q (q_skip rfl) ?_
       refine l_q (q_skip rfl) ?_
       refine l_q (q_skip rfl) ?_
       refine l_q (q_pick_t (v := .bool _) rfl rfl rfl) ?_
       refine l_nil ?_
       refine r_cond_t rfl ?_
       refine r_region' ?_
       refine l_q (q_move (v := .slice _ _ _) rfl rfl) ?_
       refine l_q (q_assign (v := .slice _ _ _) rfl rfl) ?_
       refine l_nil ?_
       refine r_forget [(1, .slice _ _ _), (2, .pointer _), (5, .slice _ _ _), (6, .int _ _), (7, .int _ _)] ⟨rfl, rfl, rfl, rfl, rfl, trivial⟩ (fun e20 => ?_)
       refine r_inBlock (r_region' ?_)
       refine l_q (q_move (v := .int _ _) rfl rfl) ?_
       refine l_q (q_add rfl rfl (by omega) rfl) ?_
       refine l_q (q_assign (v := .int _ _) rfl rfl) ?_
       refine l_nil ?_
       exact ih5 (i + 1, oa10, oc10, (L10).set wt ⟨a14, c14, (L10.getD wt sv0).xs ++ [(i : Int)]⟩) _ _ ⟨⟨rfl, rfl, (by first | rfl | (rw [hLSn]; rfl)), rfl, (vint_eq (by omega)), trivial⟩, (by omega), hLSl, hk2, (by rw [hLSn]; exact own_mono ho10 hszR), (OwnsI.mono hos14 hszR), hb1, hty_b1, hsz, hB⟩ (by first | omega | (dsimp only; omega))
      ·
       replace hc19 := df hc19
       refine l_q (q_load_agg (n := 3) Tryz.isAgg26 Tryz.sizeOf26 rfl ((hb1.cells' (cs' := [_, _, _]) 0 3 rfl)) rfl rfl) ?_
       refine l_q (q_move (v := .slice _ _ _) rfl rfl) ?_
       refine l_o (o_call Tryz.call24 rfl ((by have h := rules10_ret na nc nd pa pc pl ca cc L oa10 oc10 ((L10).set wt ⟨a14, c14, (L10.getD wt sv0).xs ++ [(i : Int)]⟩) _ (hpo.below hB) hok (by rw [hLSn]; exact Row.of_owns ho10) hos14.rows hLSs.1 hLSs.2 (by omega); rw [hLSn] at h; exact h)) rfl ?_)
       rintro _ w21 ⟨rfl, hE21⟩
       replace hB := below_ext hB hE21 hsz
       replace hb1 := hb1.ext hE21
       replace hty_b1 := hty_b1.ext hE21
       replace ho := own_ext ho hE21
       replace hos := hos.ext hE21
       replace hszW := Nat.le_trans hszW hE21.size
       replace hos14 := hos14.ext hE21
       replace ho10 := own_ext ho10 hE21
       replace hsz := Nat.le_trans hsz hE21.size
       refine l_q (q_pick_f (v := .bool _) rfl rfl rfl) ?_
       refine l_nil ?_
       refine r_cond rfl (fun hc22 => ?_) (fun hc22 => ?_)
       ·
        refine r_region' ?_
        refine l_q (q_move (v := .slice _ _ _) rfl rfl) ?_
        refine l_q (q_assign (v := .slice _ _ _) rfl rfl) ?_
        refine l_nil ?_
        refine r_forget [(1, .slice _ _ _), (2, .pointer _), (5, .slice _ _ _), (6, .int _ _), (7, .int _ _)] ⟨rfl, rfl, rfl, rfl, rfl, trivial⟩ (fun e23 => ?_)
        refine r_inBlock (r_region' ?_)
        refine l_q (q_move (v := .int _ _) rfl rfl) ?_
        refine l_q (q_add rfl rfl (by omega) rfl) ?_
        refine l_q (q_assign (v := .int _ _) rfl rfl) ?_
        refine l_nil ?_
        exact ih5 (i + 1, oa10, oc10, (L10).set wt ⟨a14, c14, (L10.getD wt sv0).xs ++ [(i : Int)]⟩) _ _ ⟨⟨rfl, rfl, (by first | rfl | (rw [hLSn]; rfl)), rfl, (vint_eq (by omega)), trivial⟩, (by omega), hLSl, hk2, (by rw [hLSn]; exact own_mono ho10 hszR), (OwnsI.mono hos14 hszR), hb1, hty_b1, hsz, hB⟩ (by first | omega | (dsimp only; omega))
       ·
        refine r_skip (r_inBlock (r_region' ?_))
        refine l_q (q_move (v := .int _ _) rfl rfl) ?_
        refine l_q (q_add rfl rfl (by omega) rfl) ?_
        refine l_q (q_assign (v := .int _ _) rfl rfl) ?_
        refine l_nil ?_
        refine r_forget [(1, .slice _ _ _), (2, .pointer _), (5, .slice _ _ _), (6, .int _ _), (7, .int _ _)] ⟨rfl, rfl, rfl, rfl, rfl, trivial⟩ (fun e24 => ?_)
        exact ih5 (i + 1, oa, oc, M) _ _ ⟨⟨rfl, rfl, (by first | rfl | (rw [hLSn]; rfl)), rfl, (vint_eq (by omega)), trivial⟩, (by omega), hMl, (mk_step hmk), ho, hos, hb1, hty_b1, hsz, hB⟩ (by first | omega | (dsimp only; omega))
    ·
     replace hc6 := dlt hc6
     refine r_exit rfl ?_
     refine r_inBlock (r_region' ?_)
     refine l_q (q_move (v := .int _ _) rfl rfl) ?_
     refine l_q (q_add rfl rfl (by omega) rfl) ?_
     refine l_q (q_assign (v := .int _ _) rfl rfl) ?_
     refine l_nil ?_
     exact ih3 (wt + 1, oa, oc, M) _ _ ⟨⟨rfl, rfl, rfl, (vint_eq (by omega)), trivial⟩, (by omega), hMl, (mk_row hmk (by omega)), ho, hos, hb1, hty_b1, hsz, hB⟩ (by first | omega | (dsimp only; omega))
  ·
   replace hc4 := dlt hc4
   refine r_exit rfl ?_
   refine r_seq (r_region' ?_)
   refine l_q (q_move (v := .slice _ _ _) rfl rfl) ?_
   refine l_q (q_assign (v := .slice _ _ _) rfl rfl) ?_
   refine l_nil ?_
   refine r_ret_ (vs := [.slice _ _ _]) rfl Tryz.func43 rfl (.nil _) ⟨rfl, trivial⟩ ?_
   exact ⟨oa, oc, M, rfl, ho, hos, ⟨by rw [List.length_map]; exact hMl, mk_end hmk (by rw [List.length_map]; omega)⟩, Ext.of_below hB⟩
end Go.Proofs.YtgdanglidienmaaGreat
