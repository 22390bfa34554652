/- Contracts. -/
import Derived.Test.YtgdanglidienmaaRT
import Derived.Test.YtgdanglidienmaaGvPut
set_option linter.unusedVariables false
set_option linter.unusedSimpArgs false
namespace Go.Proofs.Ytgdanglidienmaa
open Go Go.RowKit Go.Gv Go.Fl

/-- every watch's list so far: done ahead of wt, up to i at wt, empty behind it -/
def MkOK (p wt i : Nat) (T : List (List Int)) : Prop := ∀ k, k < T.length → risB (T.getD k []) ((if k < wt then p else if k = wt then i else 0 : Nat) : Int) = true
theorem ris_mono {l : List Int} {a b : Int} (h : risB l a = true) (hab : a ≤ b) : risB l b = true := by
  rw [ris_iff] at h ⊢
  exact ⟨h.1, fun x hx => ⟨(h.2 x hx).1, by have := (h.2 x hx).2; omega⟩⟩
theorem mk_zero {p n : Nat} : MkOK p 0 0 (List.replicate n (([] : List Int))) := fun k hk => by
  rw [List.length_replicate] at hk
  rw [List.getD_eq_getElem?_getD, List.getElem?_replicate, if_pos hk]
  exact ris_iff.2 ⟨List.Pairwise.nil, by simp⟩
theorem mk_step {p wt i : Nat} {T : List (List Int)} (h : MkOK p wt i T) : MkOK p wt (i + 1) T := fun k hk => ris_mono (h k hk) (by split <;> (try split) <;> omega)
theorem mk_row {p wt i : Nat} {T : List (List Int)} (h : MkOK p wt i T) (hi : i ≤ p) : MkOK p (wt + 1) 0 T := fun k hk => ris_mono (h k hk) (by split <;> split <;> (try split) <;> (try split) <;> omega)
theorem mk_take {p wt i : Nat} {T : List (List Int)} (h : MkOK p wt i T) (hi : i < p) (hw : wt < T.length) : MkOK p wt (i + 1) (T.set wt (T.getD wt [] ++ [(i : Int)])) := fun k hk => by
  rw [List.length_set] at hk
  have h1 := h k hk
  rw [List.getD_eq_getElem?_getD, List.getElem?_set]
  by_cases hkw : wt = k
  · subst hkw
    rw [if_pos rfl, if_pos hw]
    rw [if_neg (by omega), if_pos rfl] at h1 ⊢
    rw [ris_iff] at h1 ⊢
    show (T.getD wt [] ++ [(i : Int)]).Pairwise (· < ·) ∧ _
    rw [List.pairwise_append]
    refine ⟨⟨h1.1, List.pairwise_singleton _ _, fun x hx y hy => ?_⟩, fun x hx => ?_⟩
    · have := (h1.2 x hx).2
      have : y = i := by simpa using hy
      omega
    · rcases List.mem_append.1 hx with h2 | h2
      · have := h1.2 x h2; omega
      · have : x = i := by simpa using h2
        omega
  · rw [if_neg hkw, ← List.getD_eq_getElem?_getD]
    exact ris_mono h1 (by split <;> (try split) <;> omega)
theorem mk_end {p wt : Nat} {T : List (List Int)} (h : MkOK p wt 0 T) (hw : T.length ≤ wt) : ∀ on ∈ T, risB on (p : Int) = true := fun on hon => by
  obtain ⟨k, hk, rfl⟩ := List.mem_iff_getElem.1 hon
  have := h k hk
  rw [if_pos (by omega), List.getD_eq_getElem?_getD, List.getElem?_eq_getElem hk] at this
  exact this
theorem mk_small {p wt i : Nat} {T : List (List Int)} (h : MkOK p wt i T) (hi : i ≤ p) (hp : p ≤ 4) : ∀ on ∈ T, on.length ≤ 4 := fun on hon => by
  obtain ⟨k, hk, rfl⟩ := List.mem_iff_getElem.1 hon
  have h1 := ris_len (ris_mono (b := (p : Int)) (h k hk) (by split <;> (try split) <;> omega))
  rw [List.getD_eq_getElem?_getD, List.getElem?_eq_getElem hk] at h1
  exact Nat.le_trans h1 hp
theorem mul_small {a b : Nat} (ha : a ≤ 5) (hb : b ≤ 4) : 0 ≤ (a : Int) * (b : Int) ∧ (a : Int) * (b : Int) ≤ 20 := by
  have := Nat.mul_le_mul ha hb
  omega
theorem owns_repl (w : World) (B el n : Nat) : OwnsI w B el (List.replicate n sv0) := fun s hs => by
  obtain rfl := (List.mem_replicate.1 hs).2
  exact World.ownsRow_nil _ _ _ _

theorem isr_small {nd : List Int} {p : Nat} {M : List SV} (h : IsR nd p (M.map (·.xs))) (h5 : nd.length ≤ 5) (h4 : p ≤ 4) : M.length ≤ 2097152 ∧ ∀ s ∈ M, s.xs.length ≤ 2097152 :=
  rows_small (R := M) rfl ⟨by rw [h.1]; omega, fun t ht => by have := ris_len (h.2 t ht); omega⟩
theorem isr_len {nd : List Int} {p : Nat} {M : List SV} (h : IsR nd p (M.map (·.xs))) : M.length = nd.length := by have := h.1; rwa [List.length_map] at this
theorem bst_none {nd : List Int} {pl : List PV} {L : List SV} (hok : faultP (po nd pl L) = 0) (h : ¬ (bestR nd pl L).2.2 = 0) : ∀ R, IsR nd pl.length R → chn nd pl (L.map (·.xs)) 0 stood0 R = false := by
  rcases best_spec hok with ⟨_, h2⟩ | ⟨R, h1, _⟩
  · exact h2
  · rw [h1] at h; exact absurd rfl h


theorem rowsd10_ret (ra : Option Addr) (rc : Nat) (R : List SV) (w : World) (hR : Row w ra R.length rc 1 (R.map SV.enc)) (hRr : RowsI w R) (hRl : R.length ≤ 2097152) (hRx : ∀ s ∈ R, s.xs.length ≤ 2097152) : Ret Try.prog 8 [.slice ra R.length rc] w (fun v w' => ∃ oa oc L2, v = .slice oa L2.length oc ∧ w'.ownsRow w.heap.size 22 1 (.slice oa L2.length oc) L2.length (L2.map SV.enc) ∧ OwnsI w' w.heap.size 3 L2 ∧ L2.map (·.xs) = (R.map (·.xs)) ∧ Dis L2 ∧ Ext w w') := by
 have hB := Below.refl w.heap.size w
 have hsz : w.heap.size ≤ w.heap.size := Nat.le_refl _
 refine ret_of_runs (args := [_]) Try.func8 rfl (Nat.le_of_ble_eq_true rfl) (by kernel_rfl) ?_
 refine r_seq (r_region' ?_)
 refine l_q (q_assign (v := .slice _ _ _) rfl rfl) ?_
 refine l_nil (r_seq (r_region' ?_))
 refine l_q (q_assign (v := .slice _ _ _) rfl rfl) ?_
 refine l_nil (r_seq (r_seq (r_region' ?_)))
 refine l_q (q_assign (v := .int _ _) rfl rfl) ?_
 refine l_nil (r_block ?_)
 refine r_rounds (α := Nat × (Option Addr) × Nat × (List SV)) (fun ⟨k, oa, oc, M⟩ e wl => Knows e [(0, .slice ra R.length rc), (3, .slice oa ((M).length) oc), (4, vint (k : Int))] ∧ (k ≤ R.length) ∧ (M.map (·.xs) = (R.map (·.xs)).take k) ∧ (M.length = k) ∧ (Dis M) ∧ (wl.ownsRow w.heap.size 22 1 (.slice oa ((M).length) oc) ((M).length) ((M).map SV.enc)) ∧ (OwnsI wl w.heap.size 3 M) ∧ (w.heap.size ≤ wl.heap.size) ∧ (Below w.heap.size w wl)) (fun ⟨k, oa, oc, M⟩ => R.length - k) (0, none, 0, []) ?_ ?_
 ·
  exact ⟨⟨rfl, rfl, rfl, trivial⟩, (Nat.zero_le _), rfl, rfl, Dis.nil, (World.ownsRow_nil _ _ _ _), (OwnsI.nil _ _ _), hsz, hB⟩
 ·
  rintro ⟨k, oa, oc, M⟩ el1 wl1 ⟨hkn, hk, hM, hMl, hd, hw, hos, hsz, hB⟩ ih1
  obtain ⟨e1, rfl⟩ := knows_env hkn
  refine r_seq (r_seq (r_region' ?_))
  refine l_q (q_move (v := .int _ _) rfl rfl) ?_
  refine l_q (q_move (v := .slice _ _ _) rfl rfl) ?_
  refine l_q (q_len rfl Try.underlying24 rfl rfl) ?_
  refine l_q (q_lss rfl rfl rfl) ?_
  refine l_nil ?_
  refine r_cond rfl (fun hc2 => ?_) (fun hc2 => ?_)
  ·
   replace hc2 := dt hc2
   have hkR : k < R.length := by omega
   have hel := hRx _ (getD_lt (d := sv0) hkR)
   refine r_skip (r_seq (r_block ?_))
   have hszR : w.heap.size ≤ wl1.heap.size := hsz
   have hu := OwnsI.under hos
   have hszW := Nat.le_refl wl1.heap.size
   refine r_region' ?_
   refine l_q (q_move (v := .slice _ _ _) rfl rfl) ?_
   refine l_q (q_move (v := .slice _ _ _) rfl rfl) ?_
   refine l_q (q_move (v := .int _ _) rfl rfl) ?_
   obtain ⟨b3, o3, ha3, hh3⟩ := (hR.below hB).at1 k ((R).getD k sv0) (getD_some (by omega))
   refine l_q (q_indexAddr1 Try.underlying24 Try.sizeOf22 rfl ha3 rfl (by omega) rfl) ?_
   refine l_q (q_load Try.isAgg22 rfl (hh3) rfl) ?_
   refine l_o (o_call Try.call14 rfl (list10_ret _ _ (((R).getD k sv0).xs) _ ((RowsI.get (hRr) (i := k) (by omega)).below hB) (by omega)) rfl ?_)
   rintro _ w4 ⟨a4_0, c4_0, rfl, ho4_0, hE4⟩
   replace ho4_0 := own_mono ho4_0 (show wl1.heap.size ≤ _ by omega)
   replace hB := below_ext hB hE4 hsz
   replace hw := own_ext hw hE4
   replace hos := hos.ext hE4
   replace hszW := Nat.le_trans hszW hE4.size
   replace hsz := Nat.le_trans hsz hE4.size
   refine l_o (o_buildSlice (el := 22) (cs := [.slice a4_0 (((((R).getD k sv0).xs)).length) c4_0]) Try.underlying24 el22 (by decide) (by kernel_rfl) rfl (by decide) rfl ?_)
   intro b5 w5 hzl5 hzr5 _ hb5 hE5 ho5
   have hbs_b5 : w.heap.size ≤ b5 := Nat.le_trans hsz hzl5
   have hWp_b5 := hszW
   have hbW_b5 := Nat.le_trans hszW hzl5
   replace hB := below_ext hB hE5 hsz
   replace hw := own_ext hw hE5
   replace hos := hos.ext hE5
   replace hszW := Nat.le_trans hszW hE5.size
   replace ho4_0 := own_ext ho4_0 hE5
   replace hsz := Nat.le_trans hsz hE5.size
   replace ho5 := own_mono ho5 (show wl1.heap.size ≤ _ by omega)
   have hos5 : OwnsI w5 wl1.heap.size 3 [⟨a4_0, c4_0, (((R).getD k sv0).xs)⟩] := OwnsI.snoc (OwnsI.nil _ _ _) (own_mono ho4_0 (by omega))
   refine l_o (o_append_map (f := SV.enc) (M) ([⟨a4_0, c4_0, (((R).getD k sv0).xs)⟩]) Try.underlying24 el22 rfl rfl hw rfl (Row.of_owns ho5) (fun _ => rfl) (by (try simp only [List.length_append, List.length_cons, List.length_nil, List.length_take, List.length_drop, List.length_replicate]); omega) (by omega) rfl ?_)
   intro a6 c6 w6 hz6 ho6 hG6
   replace hB := below_own hB hG6 hw (by omega) hsz
   replace hsz := Nat.le_trans hsz hG6.size
   replace hos := hos.kept hw (by decide) hG6
   replace hszW := Nat.le_trans hszW hG6.size
   replace ho4_0 := own_kept ho4_0 hw (by decide) hG6
   refine l_q (q_assign (v := .slice _ _ _) rfl rfl) ?_
   refine l_nil ?_
   refine r_forget [(0, .slice _ _ _), (3, .slice _ _ _), (4, .int _ _)] ⟨rfl, rfl, rfl, trivial⟩ (fun e7 => ?_)
   refine r_inBlock (r_region' ?_)
   refine l_q (q_move (v := .int _ _) rfl rfl) ?_
   refine l_q (q_add rfl rfl (by omega) rfl) ?_
   refine l_q (q_assign (v := .int _ _) rfl rfl) ?_
   refine l_nil ?_
   exact ih1 (k + 1, a6, c6, M ++ [⟨a4_0, c4_0, (((R).getD k sv0).xs)⟩]) _ _ ⟨⟨rfl, by first | rfl | exact vint_eq (by omega), by first | rfl | exact vint_eq (by omega), trivial⟩, (by omega), (by rw [List.map_append, hM, xs_take hkR]; rfl), (by rw [List.length_append, hMl]; rfl), (Dis.snoc (s := ⟨_, _, _⟩) hd hu ho4_0), ho6, (OwnsI.snoc hos (own_mono ho4_0 (by omega))), hsz, hB⟩ (by first | omega | (dsimp only; omega))
  ·
   replace hc2 := dlt hc2
   refine r_exit rfl ?_
   refine r_seq (r_region' ?_)
   refine l_q (q_move (v := .slice _ _ _) rfl rfl) ?_
   refine l_q (q_assign (v := .slice _ _ _) rfl rfl) ?_
   refine l_nil ?_
   refine r_ret_ (vs := [.slice _ _ _]) rfl Try.func8 rfl (.nil _) ⟨rfl, trivial⟩ ?_
   exact ⟨oa, oc, M, rfl, hw, hos, (by rw [hM, List.take_of_length_le (by rw [List.length_map]; omega)]), hd, Ext.of_below hB⟩
theorem word10_ret (wa : Option Addr) (wc : Nat) (ws : List Int) (at_ : Int) (w : World) (hw : Row w wa ws.length wc 1 (ws.map (Value.int .u16))) (hwn : ws.length ≤ 2097152) (hwr : ∀ x ∈ ws, 0 ≤ x ∧ x ≤ 65535) (hat : 0 ≤ at_) : Ret Try.prog 39 [.slice wa ws.length wc, vint at_] w (fun v w' => ∃ x : Int, v = vint x ∧ 0 ≤ x ∧ x ≤ 65535 ∧ Ext w w') := by
 have hB := Below.refl w.heap.size w
 have hsz : w.heap.size ≤ w.heap.size := Nat.le_refl _
 refine ret_of_runs (args := [_, _]) Try.func39 rfl (Nat.le_of_ble_eq_true rfl) (by kernel_rfl) ?_
 refine r_seq (r_region' ?_)
 refine l_q (q_assign (v := .int _ _) rfl rfl) ?_
 refine l_nil (r_seq (r_seq (r_region' ?_)))
 refine l_q (q_move (v := .slice _ _ _) rfl rfl) ?_
 refine l_q (q_len rfl Try.underlying39 rfl rfl) ?_
 refine l_q (q_eql rfl rfl rfl) ?_
 refine l_nil ?_
 refine r_cond rfl (fun hc1 => ?_) (fun hc1 => ?_)
 ·
  replace hc1 := dt hc1
  refine r_seq (r_region' ?_)
  refine l_q (q_assign (v := .int _ _) rfl rfl) ?_
  refine l_nil ?_
  refine r_ret_ (vs := [.int _ _]) rfl Try.func39 rfl (.nil _) ⟨rfl, trivial⟩ ?_
  exact ⟨0, rfl, by decide, by decide, Ext.of_below hB⟩
 ·
  replace hc1 := df hc1
  refine r_skip (r_seq ?_)
  have ha1 := Int.emod_nonneg at_ (show (ws.length : Int) ≠ 0 by omega)
  have ha2 := Int.emod_lt_of_pos at_ (show (0 : Int) < ws.length by omega)
  have hwx := hwr _ (getD_lt (l := ws) (d := 0) (i := (at_ % (ws.length : Int)).toNat) (by omega))
  refine r_region' ?_
  refine l_q (q_move (v := .slice _ _ _) rfl rfl) ?_
  refine l_q (q_move (v := .int _ _) rfl rfl) ?_
  refine l_q (q_move (v := .slice _ _ _) rfl rfl) ?_
  refine l_q (q_len rfl Try.underlying39 rfl rfl) ?_
  refine l_q (q_rem rfl rfl (by omega) rfl) ?_
  obtain ⟨b2, o2, ha2, hh2⟩ := (hw.below hB).at1 (at_ % (ws.length : Int)).toNat ((ws).getD (at_ % (ws.length : Int)).toNat 0) (getD_some (by omega))
  refine l_q (q_indexAddr1 Try.underlying39 Try.sizeOf120 rfl ha2 rfl (by omega) rfl) ?_
  refine l_q (q_load Try.isAgg120 rfl (hh2) rfl) ?_
  refine l_q (q_toInt Try.underlying120 Try.underlying3 rfl (by omega) rfl) ?_
  refine l_q (q_assign (v := .int _ _) rfl rfl) ?_
  refine l_nil ?_
  refine r_forget [(4, .int _ _)] ⟨rfl, trivial⟩ (fun e3 => ?_)
  refine r_ret_ (vs := [.int _ _]) rfl Try.func39 rfl (.nil _) ⟨rfl, trivial⟩ ?_
  exact ⟨_, rfl, hwx.1, hwx.2, Ext.of_below hB⟩
end Go.Proofs.Ytgdanglidienmaa
