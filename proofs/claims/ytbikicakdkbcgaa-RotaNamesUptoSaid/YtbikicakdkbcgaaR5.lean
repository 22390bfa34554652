/- Contracts. -/
import Derived.Test.YtbikicakdkbcgaaR4
import Derived.Test.YtbikicakdkbcgaaSrt
set_option linter.unusedVariables false
set_option linter.unusedSimpArgs false
namespace Go.Proofs.Ytbikicakdkbcgaa
open Go Go.RowKit Go.Gv Go.Fl

def upTo (n : Nat) : List Int := (List.range n).map (fun (i : Nat) => (i : Int))
theorem upTo_len (n : Nat) : (upTo n).length = n := by unfold upTo; simp
theorem upTo_step (n : Nat) : upTo n ++ [(n : Int)] = upTo (n + 1) := by unfold upTo; rw [List.range_succ, List.map_append]; rfl
def bitB (n j : Nat) : Bool := decide (n / 2 ^ j % 2 = 1)
def subK (xs : List Int) (n k : Nat) : List Int := ((List.range k).filter (bitB n)).map (fun j => xs.getD j 0)
theorem sub_yes {xs : List Int} {n k : Nat} (h : bitB n k = true) : subK xs n k ++ [xs.getD k 0] = subK xs n (k + 1) := by
  unfold subK
  rw [List.range_succ, List.filter_append, List.filter_cons_of_pos h, List.filter_nil, List.map_append]; rfl
theorem sub_no {xs : List Int} {n k : Nat} (h : bitB n k = false) : subK xs n k = subK xs n (k + 1) := by
  unfold subK
  rw [List.range_succ, List.filter_append, List.filter_cons_of_neg (by rw [h]; decide), List.filter_nil, List.append_nil]
theorem two_pow {n : Nat} (h : n ≤ 4) : ∃ N : Nat, (2 : Int) ^ ((n : Int).toNat) = N ∧ N ≤ 16 ∧ N = 2 ^ n := by
  refine ⟨2 ^ n, ?_, ?_, rfl⟩
  · simp
  · rcases (show n = 0 ∨ n = 1 ∨ n = 2 ∨ n = 3 ∨ n = 4 by omega) with rfl | rfl | rfl | rfl | rfl <;> decide
theorem shr_q (k j : Nat) : ∃ q : Nat, (k : Int) / 2 ^ ((j : Int).toNat) = q ∧ q = k / 2 ^ j := ⟨k / 2 ^ j, by simp, rfl⟩
def listsL (xs : List Int) : List (List Int) := sortL ((List.range (2 ^ xs.length)).map (fun n => subK xs n xs.length))
theorem sub_snoc {xs : List Int} {k : Nat} {M : List SV} {s : SV} (h : M.map (·.xs) = (List.range k).map (fun n => subK xs n xs.length)) (hs : s.xs = subK xs k xs.length) : (M ++ [s]).map (·.xs) = (List.range (k + 1)).map (fun n => subK xs n xs.length) := by
  rw [List.map_append, h, List.range_succ, List.map_append]
  simp only [List.map_cons, List.map_nil, hs]
theorem sub_len {xs : List Int} {n k : Nat} : (subK xs n k).length ≤ k := by
  unfold subK
  rw [List.length_map]
  exact Nat.le_trans (List.length_filter_le _ _) (by rw [List.length_range]; exact Nat.le_refl _)
theorem sub_small {xs : List Int} {k : Nat} {M : List SV} (h : M.map (·.xs) = (List.range k).map (fun n => subK xs n xs.length)) (h4 : xs.length ≤ 4) : ∀ s ∈ M, s.xs.length ≤ 2097152 := fun s hs => by
  have h1 : s.xs ∈ M.map (·.xs) := List.mem_map.2 ⟨s, hs, rfl⟩
  rw [h] at h1
  obtain ⟨n, _, h2⟩ := List.mem_map.1 h1
  rw [← h2]
  exact Nat.le_trans sub_len (by omega)

theorem el26 : Elem Try.prog 26 (.slice none 0 0) 1 24 := elem_of (by kernel_rfl) rfl (by decide)
theorem everybody_ret (na : Option Addr) (nc : Nat) (nd : List Int) (pa : Option Addr) (pc : Nat) (pl : List PV) (ca : Option Addr) (cc : Nat) (L : List SV) (w : World) (hpll : pl.length ≤ 2097152) : Ret Try.prog 16 [.agg ⟨[.slice na nd.length nc, .slice pa pl.length pc, .slice ca L.length cc]⟩] w (fun v w' => ∃ ra0 rc0, v = .slice ra0 (upTo pl.length).length rc0 ∧ w'.ownsRow w.heap.size 3 1 (.slice ra0 (upTo pl.length).length rc0) (upTo pl.length).length ((upTo pl.length).map vint) ∧ Ext w w') := by
 have hB := Below.refl w.heap.size w
 have hsz : w.heap.size ≤ w.heap.size := Nat.le_refl _
 refine ret_of_runs (args := [_]) Try.func16 rfl (Nat.le_of_ble_eq_true rfl) (by kernel_rfl) (r_seq (r_region' (l_o (o_box rfl rfl rfl ?_))))
 intro b1 w1 hzl1 hzr1 _ hb1 hE1
 have hbs_b1 : w.heap.size ≤ b1 := Nat.le_trans hsz hzl1
 replace hB := below_ext hB hE1 hsz
 replace hsz := Nat.le_trans hsz hE1.size
 refine l_q (qas rfl rfl) (l_nil (r_seq (r_seq (r_region' (l_q (q_fieldAddr (o' := 1) rfl fld29_1 rfl) (l_q (q_load Try.isAgg27 rfl ((hb1.has (o := 1) rfl)) rfl) (l_q (q_len rfl Try.underlying27 rfl rfl) (l_q (qmi rfl rfl) (l_nil (r_block (r_rounds (α := Nat × (Option Addr) × Nat) (fun ⟨k, oa, oc⟩ e wl => Knows e [(2, .slice oa ((upTo k).length) oc), (6, vint (pl.length : Int)), (7, vint (k : Int))] ∧ (k ≤ pl.length) ∧ (wl.ownsRow w.heap.size 3 1 (.slice oa ((upTo k).length) oc) ((upTo k).length) ((upTo k).map vint)) ∧ (w.heap.size ≤ wl.heap.size) ∧ (Below w.heap.size w wl)) (fun ⟨k, oa, oc⟩ => pl.length - k) (0, none, 0) ?_ ?_)))))))))))
 ·
  exact ⟨⟨rfl, rfl, rfl, trivial⟩, (Nat.zero_le _), (World.ownsRow_nil _ _ _ _), hsz, hB⟩
 ·
  rintro ⟨k, oa, oc⟩ el2 wl2 ⟨hkn, hkk, ho, hsz, hB⟩ ih2
  obtain ⟨e2, rfl⟩ := knows_env hkn
  refine r_seq (r_region' (l_q (q_lss rfl rfl rfl) (l_nil (r_seq (r_cond rfl (fun hc3 => ?_) (fun hc3 => ?_))))))
  ·
   replace hc3 := dt hc3
   have hul := upTo_len k
   refine r_skip (r_seq (r_block (r_seq (r_region' (l_q (qmi rfl rfl) (l_q (qai rfl rfl) (l_nil (r_region' (l_q (qms rfl rfl) (l_q (qmi rfl rfl) (l_o (o_buildSlice (el := 3) (cs := [vint (k : Int)]) Try.underlying26 el3 (by decide) (by kernel_rfl) rfl (by decide) rfl ?_))))))))))))
   intro b4 w4 hzl4 hzr4 _ hb4 hE4 ho4
   have hbs_b4 : w.heap.size ≤ b4 := Nat.le_trans hsz hzl4
   replace hB := below_ext hB hE4 hsz
   replace ho := own_ext ho hE4
   replace hsz := Nat.le_trans hsz hE4.size
   refine l_o (o_append_map (f := vint) (upTo k) ([(k : Int)]) Try.underlying26 el3 rfl rfl ho rfl (Row.of_owns ho4) (fun _ => rfl) (by (try simp only [List.length_append, List.length_cons, List.length_nil, List.length_take, List.length_drop, List.length_replicate]); omega) (by omega) rfl ?_)
   intro a5 c5 w5 hz5 ho5 hG5
   replace hB := below_own hB hG5 ho (by omega) hsz
   replace hsz := Nat.le_trans hsz hG5.size
   refine l_q (qas rfl rfl) (l_nil (r_inBlock (r_region' (l_q (q_add rfl rfl (by omega) rfl) (l_q (qmi rfl rfl) (l_nil ?_))))))
   have hst := upTo_step k
   exact ih2 (k + 1, a5, c5) _ _ ⟨⟨(congrArg (fun z => Value.slice _ (List.length z) _) hst), rfl, by first | rfl | exact vint_eq (by omega), trivial⟩, (by omega), (hst ▸ ho5), hsz, hB⟩ (by first | omega | (dsimp only; omega))
  ·
   replace hc3 := dlt hc3
   refine r_exit rfl (r_seq (r_region' (l_q (qms rfl rfl) (l_q (qas rfl rfl) (l_nil (r_ret_ (vs := [.slice _ _ _]) rfl Try.func16 rfl (.nil _) ⟨rfl, trivial⟩ ?_))))))
   have hkk : k = pl.length := by omega
   subst hkk
   exact ⟨_, _, rfl, ho, Ext.of_below hB⟩
theorem lists_ret (xa : Option Addr) (xc : Nat) (xs : List Int) (w : World) (hx : Row w xa xs.length xc 1 (xs.map vint)) (hxn : xs.length ≤ 2097152) (hx4 : xs.length ≤ 4) : Ret Try.prog 32 [.slice xa xs.length xc] w (fun v w' => ∃ oa oc S, v = .slice oa S.length oc ∧ Row w' oa S.length oc 1 (S.map SV.enc) ∧ RowsI w' S ∧ S.map (·.xs) = listsL xs ∧ (∀ x, oa = some x → w.heap.size ≤ x.block) ∧ (∀ s ∈ S, ∀ x, s.a = some x → w.heap.size ≤ x.block) ∧ Ext w w') := by
 obtain ⟨N, hN, hN16, hNn⟩ := two_pow hx4
 have hB := Below.refl w.heap.size w
 have hsz : w.heap.size ≤ w.heap.size := Nat.le_refl _
 refine ret_of_runs (args := [_]) Try.func32 rfl (Nat.le_of_ble_eq_true rfl) (by kernel_rfl) (r_seq (r_region' (l_q (qas rfl rfl) (l_nil (r_seq (r_seq (r_region' (l_q (qms rfl rfl) (l_q (q_len rfl Try.underlying26 rfl rfl) (l_q (q_shl rfl rfl (by omega) (by omega) rfl) (l_q (qmi rfl rfl) (l_nil (r_block (r_rounds (α := Nat × (Option Addr) × Nat × (List SV)) (fun ⟨k, oa, oc, M⟩ e wl => Knows e [(0, .slice xa xs.length xc), (2, .slice oa ((M).length) oc), (9, vint (1 * 2 ^ ((xs.length : Int).toNat))), (10, vint (k : Int))] ∧ (k ≤ N) ∧ (M.map (·.xs) = (List.range k).map (fun n => subK xs n xs.length)) ∧ (M.length = k) ∧ (wl.ownsRow w.heap.size 26 1 (.slice oa ((M).length) oc) ((M).length) ((M).map SV.enc)) ∧ (OwnsI wl w.heap.size 3 M) ∧ (w.heap.size ≤ wl.heap.size) ∧ (Below w.heap.size w wl)) (fun ⟨k, oa, oc, M⟩ => N - k) (0, none, 0, []) ?_ ?_))))))))))))))
 ·
  exact ⟨⟨rfl, rfl, rfl, rfl, trivial⟩, (by omega), rfl, rfl, (World.ownsRow_nil _ _ _ _), (OwnsI.nil _ _ _), hsz, hB⟩
 ·
  rintro ⟨k, oa, oc, M⟩ el1 wl1 ⟨hkn, hk, hM, hMl, ho, hos, hsz, hB⟩ ih1
  obtain ⟨e1, rfl⟩ := knows_env hkn
  refine r_seq (r_region' (l_q (q_lss rfl rfl rfl) (l_nil (r_seq (r_cond rfl (fun hc2 => ?_) (fun hc2 => ?_))))))
  ·
   replace hc2 := dt hc2
   have hkN : k < N := by omega
   refine r_skip (r_seq (r_block (r_seq (r_region' (l_q (qmi rfl rfl) (l_q (qai rfl rfl) (l_nil (r_seq ?_))))))))
   have hBE := Below.refl wl1.heap.size wl1
   have hszW : w.heap.size ≤ wl1.heap.size := hsz
   have hosE := hos
   refine r_region' (l_q (qas rfl rfl) (l_nil (r_seq (r_seq (r_region' (l_q (qms rfl rfl) (l_q (q_len rfl Try.underlying26 rfl rfl) (l_q (qmi rfl rfl) (l_nil (r_block (r_rounds (α := Nat × (Option Addr) × Nat) (fun ⟨j, la, lc⟩ e wl => Knows e [(0, .slice xa xs.length xc), (2, .slice oa ((M).length) oc), (3, vint (k : Int)), (4, .slice la ((subK xs k j).length) lc), (9, vint (1 * 2 ^ ((xs.length : Int).toNat))), (10, vint (k : Int)), (13, .slice xa xs.length xc), (14, vint (xs.length : Int)), (15, vint (j : Int))] ∧ (j ≤ xs.length) ∧ (wl.ownsRow wl1.heap.size 3 1 (.slice la ((subK xs k j).length) lc) ((subK xs k j).length) ((subK xs k j).map vint)) ∧ (wl.ownsRow w.heap.size 26 1 (.slice oa ((M).length) oc) ((M).length) ((M).map SV.enc)) ∧ (Below wl1.heap.size wl1 wl) ∧ (w.heap.size ≤ wl.heap.size) ∧ (Below w.heap.size w wl)) (fun ⟨j, la, lc⟩ => xs.length - j) (0, none, 0) ?_ ?_)))))))))))
   ·
    exact ⟨⟨rfl, rfl, rfl, rfl, rfl, rfl, rfl, rfl, rfl, trivial⟩, (Nat.zero_le _), (World.ownsRow_nil _ _ _ _), ho, hBE, hsz, hB⟩
   ·
    rintro ⟨j, la, lc⟩ el3 wl3 ⟨hkn, hkj, hl, ho, hBE, hsz, hB⟩ ih3
    obtain ⟨e3, rfl⟩ := knows_env hkn
    refine r_seq (r_region' (l_q (q_lss rfl rfl rfl) (l_nil (r_seq (r_cond rfl (fun hc4 => ?_) (fun hc4 => ?_))))))
    ·
     replace hc4 := dt hc4
     have hjx : j < xs.length := by omega
     obtain ⟨q, hq, hqn⟩ := shr_q k j
     have hsl := sub_len (xs := xs) (n := k) (k := j)
     have hBEs := hBE.size
     refine r_skip (r_seq (r_block (r_seq (r_region' (l_q (qmi rfl rfl) ?_)))))
     obtain ⟨b5, o5, ha5, hh5⟩ := (hx.below hB).at1 j ((xs).getD j 0) (getD_some (by omega))
     refine l_q (q_indexAddr1 Try.underlying26 Try.sizeOf3 rfl ha5 rfl (by omega) rfl) (l_q (q_load Try.isAgg3 rfl (hh5) rfl) (l_q (qai rfl rfl) (l_q (qai rfl rfl) (l_nil (r_seq (r_region' (l_q (qmi rfl rfl) (l_q (qmi rfl rfl) (l_q (q_shr rfl rfl (by omega) rfl) (l_q (q_rem rfl rfl (by omega) rfl) (l_q (q_eql rfl rfl rfl) (l_nil (r_cond rfl (fun hc6 => ?_) (fun hc6 => ?_))))))))))))))
     ·
      replace hc6 := dt hc6
      have hst := sub_yes (xs := xs) (n := k) (k := j) (decide_eq_true (by rw [← hqn]; omega))
      refine r_region' (l_q (qms rfl rfl) (l_q (qmi rfl rfl) (l_o (o_buildSlice (el := 3) (cs := [vint ((xs).getD j 0)]) Try.underlying26 el3 (by decide) (by kernel_rfl) rfl (by decide) rfl ?_))))
      intro b7 w7 hzl7 hzr7 _ hb7 hE7 ho7
      have hbs_b7 : w.heap.size ≤ b7 := Nat.le_trans hsz hzl7
      replace hB := below_ext hB hE7 hsz
      replace ho := own_ext ho hE7
      replace hBE := below_ext hBE hE7 hBE.size
      replace hl := own_ext hl hE7
      replace hsz := Nat.le_trans hsz hE7.size
      refine l_o (o_append_map (f := vint) (subK xs k j) ([(xs).getD j 0]) Try.underlying26 el3 rfl rfl hl rfl (Row.of_owns ho7) (fun _ => rfl) (by (try simp only [List.length_append, List.length_cons, List.length_nil, List.length_take, List.length_drop, List.length_replicate]); omega) (by omega) rfl ?_)
      intro a8 c8 w8 hz8 ho8 hG8
      replace hB := below_own hB hG8 hl (by omega) hsz
      replace hsz := Nat.le_trans hsz hG8.size
      replace ho := own_kept ho hl (by decide) hG8
      replace hBE := below_own hBE hG8 hl (by first | exact Nat.le_refl _ | omega) hBE.size
      refine l_q (qas rfl rfl) (l_nil (r_forget [(0, .slice _ _ _), (2, .slice _ _ _), (3, .int _ _), (4, .slice _ _ _), (9, .int _ _), (10, .int _ _), (13, .slice _ _ _), (14, .int _ _), (15, .int _ _)] ⟨rfl, rfl, rfl, rfl, rfl, rfl, rfl, rfl, rfl, trivial⟩ (fun e9 => (r_inBlock (r_region' (l_q (q_add rfl rfl (by omega) rfl) (l_q (qmi rfl rfl) (l_nil ?_))))))))
      exact ih3 (j + 1, a8, c8) _ _ ⟨⟨rfl, rfl, rfl, (congrArg (fun z => Value.slice _ (List.length z) _) hst), rfl, rfl, rfl, rfl, by first | rfl | exact vint_eq (by omega), trivial⟩, (by omega), (hst ▸ ho8), ho, hBE, hsz, hB⟩ (by first | omega | (dsimp only; omega))
     ·
      replace hc6 := df hc6
      have hst := sub_no (xs := xs) (n := k) (k := j) (decide_eq_false (by rw [← hqn]; omega))
      refine r_skip (r_inBlock (r_region' (l_q (q_add rfl rfl (by omega) rfl) (l_q (qmi rfl rfl) (l_nil (r_forget [(0, .slice _ _ _), (2, .slice _ _ _), (3, .int _ _), (4, .slice _ _ _), (9, .int _ _), (10, .int _ _), (13, .slice _ _ _), (14, .int _ _), (15, .int _ _)] ⟨rfl, rfl, rfl, rfl, rfl, rfl, rfl, rfl, rfl, trivial⟩ (fun e10 => ?_)))))))
      exact ih3 (j + 1, la, lc) _ _ ⟨⟨rfl, rfl, rfl, (congrArg (fun z => Value.slice _ (List.length z) _) hst), rfl, rfl, rfl, rfl, by first | rfl | exact vint_eq (by omega), trivial⟩, (by omega), (hst ▸ hl), ho, hBE, hsz, hB⟩ (by first | omega | (dsimp only; omega))
    ·
     replace hc4 := dlt hc4
     refine r_exit rfl ?_
     have hjx2 : j = xs.length := by omega
     have hos := hosE.ext (Ext.of_below hBE)
     refine r_region' (l_q (qms rfl rfl) (l_q (qms rfl rfl) (l_o (o_buildSlice (el := 26) (cs := [.slice la ((subK xs k j).length) lc]) Try.underlying22 el26 (by decide) (by kernel_rfl) rfl (by decide) rfl ?_))))
     intro b11 w11 hzl11 hzr11 _ hb11 hE11 ho11
     have hbs_b11 : w.heap.size ≤ b11 := Nat.le_trans hsz hzl11
     replace hB := below_ext hB hE11 hsz
     replace ho := own_ext ho hE11
     replace hl := own_ext hl hE11
     replace hos := hos.ext hE11
     replace hsz := Nat.le_trans hsz hE11.size
     have hos11 : OwnsI w11 w.heap.size 3 [⟨la, lc, subK xs k j⟩] := OwnsI.snoc (OwnsI.nil _ _ _) (own_mono hl (by omega))
     refine l_o (o_append_map (f := SV.enc) (M) ([⟨la, lc, subK xs k j⟩]) Try.underlying22 el26 rfl rfl ho rfl (Row.of_owns ho11) (fun _ => rfl) (by (try simp only [List.length_append, List.length_cons, List.length_nil, List.length_take, List.length_drop, List.length_replicate]); omega) (by omega) rfl ?_)
     intro a12 c12 w12 hz12 ho12 hG12
     replace hB := below_own hB hG12 ho (by omega) hsz
     replace hsz := Nat.le_trans hsz hG12.size
     replace hl := own_kept hl ho (by decide) hG12
     replace hos := hos.kept ho (by decide) hG12
     refine l_q (qas rfl rfl) (l_nil (r_forget [(0, .slice _ _ _), (2, .slice _ _ _), (9, .int _ _), (10, .int _ _)] ⟨rfl, rfl, rfl, rfl, trivial⟩ (fun e13 => (r_inBlock (r_region' (l_q (q_add rfl rfl (by omega) rfl) (l_q (qmi rfl rfl) (l_nil ?_))))))))
     exact ih1 (k + 1, a12, c12, M ++ [⟨la, lc, subK xs k j⟩]) _ _ ⟨⟨rfl, by first | rfl | exact vint_eq (by omega), rfl, by first | rfl | exact vint_eq (by omega), trivial⟩, (by omega), (sub_snoc hM (congrArg (subK xs k) hjx2)), (by rw [List.length_append, hMl]; rfl), ho12, (OwnsI.snoc hos (own_mono hl (by omega))), hsz, hB⟩ (by first | omega | (dsimp only; omega))
  ·
   replace hc2 := dlt hc2
   have hkn : k = 2 ^ xs.length := by omega
   refine r_exit rfl (r_seq (r_region' (l_q (qms rfl rfl) (l_o (o_call Try.call55 rfl (sortL_ret (INT := 3) ho hos (by decide) (by omega) (sub_small hM hx4) (by rw [hMl, hkn]; exact Nat.two_pow_pos _)) rfl ?_)))))
   rintro _ w14 ⟨rfl, S, hSx, hSl, hSrow, hSr, hSm, hGs⟩
   replace hB := below_own hB hGs ho (by omega) hsz
   replace hsz := Nat.le_trans hsz hGs.size
   refine l_nil (r_seq (r_region' (l_q (qms rfl rfl) (l_q (qas rfl rfl) (l_nil (r_ret_ (vs := [.slice _ _ _]) rfl Try.func32 rfl (.nil _) ⟨rfl, trivial⟩ ?_))))))
   exact ⟨oa, oc, S, by rw [hSl]; rfl, by rw [hSl]; exact hSrow, hSr, by rw [hSx, hM, hkn]; rfl, (fun x hx => own_block_ge ho (by rw [hx]; rfl)), (fun s hs x hx => own_block_ge (hos s (hSm s hs)) (by show (Value.slice s.a _ _).ownBlock = _; rw [hx]; rfl)), Ext.of_below hB⟩
end Go.Proofs.Ytbikicakdkbcgaa
