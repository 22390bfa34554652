/- Contracts. -/
import Derived.Test.YtkcbgpilfegofaaF19
set_option linter.unusedVariables false
set_option linter.unusedSimpArgs false
namespace Go.Proofs.Ytkcbgpilfegofaa
open Go Go.RowKit Go.Gv Go.Fl

def three : List Sg := [[46], [45], [46, 46]]
theorem three_le : ∀ s ∈ three, s.length ≤ 2097152 := by decide
theorem sv_snoc {L M : List SV} {k : Nat} {s : SV} (hk : k < L.length) (h : M.map (·.xs) = (L.take k).map (·.xs)) (hs : s.xs = (L.getD k sv0).xs := by rfl) : (M ++ [s]).map (·.xs) = (L.take (k + 1)).map (·.xs) := by
  rw [List.map_append, h, List.take_add_one, List.getElem?_eq_getElem hk, List.map_append]
  simp only [List.map_cons, List.map_nil, Option.toList_some, hs, List.getD_eq_getElem?_getD, List.getElem?_eq_getElem hk, Option.getD_some]
theorem ex_awake : exL [45, 32, 46] [46, 46, 32, 46] = [2, 0, 0] := by decide +kernel
theorem tx_awake2 : txL three [46, 46] 1 2 = [[1], [2], [0, 0]] := by decide +kernel
theorem tx_awake {L : List SV} (h : L.map (·.xs) = txL three [46, 46] 1 2) : L.length = 3 := by
  have := congrArg List.length h
  rw [List.length_map, tx_awake2] at this
  exact this
theorem tx_aw2 {L : List SV} (h : L.map (·.xs) = txL three [46, 46] 1 2) : ∀ s ∈ L, s.xs.length ≤ 2097152 := by
  intro s hs
  have hm : s.xs ∈ L.map (·.xs) := List.mem_map.2 ⟨s, hs, rfl⟩
  rw [h, tx_awake2] at hm
  simp at hm
  rcases hm with h | h | h <;> rw [h] <;> decide


theorem three_ret (w : World) : Ret Try.prog 46 [] w (fun v w' => ∃ ca cc, v = .agg ⟨[.slice ca (three).length cc]⟩ ∧ Row w' ca (three).length cc 1 ((three).map vstr) ∧ Ext w w') := by
  have hB := Below.refl w.heap.size w
  have hsz : w.heap.size ≤ w.heap.size := Nat.le_refl _
  refine ret_of_runs (args := []) Try.func46 rfl (Nat.le_of_ble_eq_true rfl) (by kernel_rfl) ?_
  refine r_seq ?_
  refine r_region' ?_
  refine l_o (o_alloc Try.zeroValue30 rfl rfl ?_)
  intro b1 w1 hzl1 hzr1 _ hb1 hE1
  have hbs_b1 : w.heap.size ≤ b1 := Nat.le_trans hsz hzl1
  replace hB := below_ext hB hE1 hsz
  replace hsz := Nat.le_trans hsz hE1.size
  refine l_nil ?_
  refine r_seq ?_
  refine r_region' ?_
  refine l_o (o_buildSlice (el := 9) (cs := [vstr [46], vstr [45], vstr [46, 46]]) Try.underlying22 el9 (by decide) (by kernel_rfl) rfl (by decide) rfl ?_)
  intro b2 w2 hzl2 hzr2 _ hb2 hE2 ho2
  have hbs_b2 : w.heap.size ≤ b2 := Nat.le_trans hsz hzl2
  replace hB := below_ext hB hE2 hsz
  replace hb1 := hb1.ext hE2
  replace hsz := Nat.le_trans hsz hE2.size
  refine l_q (q_build (v := .agg ⟨[.slice (some ⟨b2, 0, none⟩) 3 3]⟩) (fun w => by kernel_rfl) rfl) ?_
  refine l_o (o_store (vs := [.slice (some ⟨b2, 0, none⟩) 3 3]) (cs' := [.slice (some ⟨b2, 0, none⟩) 3 3]) Try.sizeOf30 rfl rfl rfl rfl hb1 (Nat.le_of_ble_eq_true rfl) rfl rfl ?_)
  intro w3 hz3 hb1 hG3
  replace hB := below_upd hB hG3 hsz (by omega)
  replace hsz : w.heap.size ≤ w3.heap.size := by rw [hz3]; exact hsz
  replace ho2 := own_updlt ho2 hG3 (by omega)
  refine l_nil ?_
  refine r_forget [(0, .pointer _)] ⟨rfl, trivial⟩ (fun e4 => ?_)
  refine r_ret_ (vs := [.agg _]) rfl Try.func46 rfl (.nil _) ⟨⟨_, _, rfl, run_loadVarA Try.isAgg30 Try.sizeOf30 (hb1.cells' (cs' := [_]) 0 1 rfl) rfl⟩, trivial⟩ ?_
  exact ⟨_, _, rfl, Row.of_owns ho2, Ext.of_below hB⟩
theorem code_ret (a : Option Addr) (cc : Nat) (c : List Sg) (w : World) (hrow : Row w a c.length cc 1 (c.map vstr)) (hcn : c.length ≤ 2097152) : Ret Try.prog 20 [.agg ⟨[.slice a c.length cc]⟩] w (fun v w' => ∃ ca cc, v = .agg ⟨[.slice ca (c).length cc]⟩ ∧ Row w' ca (c).length cc 1 ((c).map vstr) ∧ Ext w w') := by
  have hB := Below.refl w.heap.size w
  have hsz : w.heap.size ≤ w.heap.size := Nat.le_refl _
  refine ret_of_runs (args := [_]) Try.func20 rfl (Nat.le_of_ble_eq_true rfl) (by kernel_rfl) ?_
  refine r_seq ?_
  refine r_region' ?_
  refine l_o (o_box rfl rfl rfl ?_)
  intro b1 w1 hzl1 hzr1 _ hb1 hE1
  have hbs_b1 : w.heap.size ≤ b1 := Nat.le_trans hsz hzl1
  replace hB := below_ext hB hE1 hsz
  replace hsz := Nat.le_trans hsz hE1.size
  refine l_o (o_alloc Try.zeroValue30 rfl rfl ?_)
  intro b2 w2 hzl2 hzr2 _ hb2 hE2
  have hbs_b2 : w.heap.size ≤ b2 := Nat.le_trans hsz hzl2
  replace hB := below_ext hB hE2 hsz
  replace hb1 := hb1.ext hE2
  replace hsz := Nat.le_trans hsz hE2.size
  refine l_nil ?_
  refine r_forget [(1, .pointer _), (2, .pointer _)] ⟨rfl, rfl, trivial⟩ (fun e3 => ?_)
  refine r_seq ?_
  refine r_region' ?_
  refine l_o (o_buildSlice (el := 9) (cs := []) Try.underlying22 el9 (by decide) (by kernel_rfl) rfl (by decide) rfl ?_)
  intro b4 w4 hzl4 hzr4 _ hb4 hE4 ho4
  have hbs_b4 : w.heap.size ≤ b4 := Nat.le_trans hsz hzl4
  replace hB := below_ext hB hE4 hsz
  replace hb1 := hb1.ext hE4
  replace hb2 := hb2.ext hE4
  replace hsz := Nat.le_trans hsz hE4.size
  refine l_q (q_fieldAddr (o' := 0) rfl fld24_0 rfl) ?_
  refine l_q (q_load Try.isAgg22 rfl ((hb1.has (o := 0) rfl)) rfl) ?_
  refine l_o (o_append_map (f := vstr) ([]) (c) Try.underlying22 el9 rfl rfl ho4 rfl (hrow.below hB) (fun _ => rfl) (by (try simp only [List.length_append, List.length_cons, List.length_nil, List.length_take, List.length_drop, List.length_replicate]); omega) (by omega) rfl ?_)
  intro a5 c5 w5 hz5 ho5 hG5
  replace hB := below_own hB hG5 ho4 (by omega) hsz
  replace hsz := Nat.le_trans hsz hG5.size
  replace hb1 := hb1.step hG5 (own_ne ho4 (by omega))
  replace hb2 := hb2.step hG5 (own_ne ho4 (by omega))
  refine l_q (q_build (v := .agg ⟨[.slice a5 (([] ++ c).length) c5]⟩) (fun w => by kernel_rfl) rfl) ?_
  refine l_o (o_store (vs := [.slice a5 (([] ++ c).length) c5]) (cs' := [.slice a5 (([] ++ c).length) c5]) Try.sizeOf30 rfl rfl rfl rfl hb2 (Nat.le_of_ble_eq_true rfl) rfl rfl ?_)
  intro w6 hz6 hb2 hG6
  replace hB := below_upd hB hG6 hsz (by omega)
  replace hsz : w.heap.size ≤ w6.heap.size := by rw [hz6]; exact hsz
  replace hb1 := hb1.upd hG6 (by omega)
  replace ho5 := own_updlt ho5 hG6 (by omega)
  refine l_nil ?_
  refine r_forget [(2, .pointer _)] ⟨rfl, trivial⟩ (fun e7 => ?_)
  refine r_ret_ (vs := [.agg _]) rfl Try.func20 rfl (.nil _) ⟨⟨_, _, rfl, run_loadVarA Try.isAgg30 Try.sizeOf30 (hb2.cells' (cs' := [_]) 0 1 rfl) rfl⟩, trivial⟩ ?_
  exact ⟨_, _, rfl, Row.of_owns ho5, Ext.of_below hB⟩
theorem rows_ret (la : Option Addr) (lc : Nat) (L : List SV) (w : World) (hl : Row w la L.length lc 1 (L.map SV.enc)) (hlr : RowsI w L) (hln : L.length ≤ 2097152) (hle : ∀ s ∈ L, s.xs.length ≤ 2097152) : Ret Try.prog 38 [.slice la L.length lc] w (fun v w' => ∃ oa oc L2, v = .slice oa L2.length oc ∧ w'.ownsRow w.heap.size 25 1 (.slice oa L2.length oc) L2.length (L2.map SV.enc) ∧ OwnsI w' w.heap.size 3 L2 ∧ L2.map (·.xs) = L.map (·.xs) ∧ Ext w w') := by
  have hB := Below.refl w.heap.size w
  have hsz : w.heap.size ≤ w.heap.size := Nat.le_refl _
  refine ret_of_runs (args := [_]) Try.func38 rfl (Nat.le_of_ble_eq_true rfl) (by kernel_rfl) ?_
  refine r_seq ?_
  refine r_region' ?_
  refine l_q (q_assign (v := .slice _ _ _) rfl rfl) ?_
  refine l_nil ?_
  refine r_forget [(0, .slice _ _ _)] ⟨rfl, trivial⟩ (fun e1 => ?_)
  refine r_seq ?_
  refine r_region' ?_
  refine l_q (q_assign (v := .slice _ _ _) rfl rfl) ?_
  refine l_nil ?_
  refine r_seq ?_
  refine r_seq ?_
  refine r_region' ?_
  refine l_q (q_assign (v := .int _ _) rfl rfl) ?_
  refine l_nil ?_
  refine r_block ?_
  refine r_rounds (α := Nat × (Option Addr) × Nat × (List SV)) (fun ⟨k, oa, oc, M⟩ e wl => Knows e [(0, .slice la L.length lc), (3, .slice oa ((M).length) oc), (4, vint (k : Int))] ∧ (k ≤ L.length) ∧ (M.map (·.xs) = (L.take k).map (·.xs)) ∧ (M.length = k) ∧ (wl.ownsRow w.heap.size 25 1 (.slice oa ((M).length) oc) ((M).length) ((M).map SV.enc)) ∧ (OwnsI wl w.heap.size 3 M) ∧ (w.heap.size ≤ wl.heap.size) ∧ (Below w.heap.size w wl)) (fun ⟨k, oa, oc, M⟩ => L.length - k) (0, none, 0, []) ?_ ?_
  · skip
    exact ⟨⟨rfl, rfl, rfl, trivial⟩, (by omega), rfl, rfl, (World.ownsRow_nil _ _ _ _), (OwnsI.nil _ _ _), hsz, hB⟩
  · skip
    rintro ⟨k, oa, oc, M⟩ el2 wl2 ⟨hkn, hk, hM, hMl, ho, hos, hsz, hB⟩ ih2
    obtain ⟨e2, rfl⟩ := knows_env hkn
    refine r_seq ?_
    refine r_seq ?_
    refine r_region' ?_
    refine l_q (q_move (v := .int _ _) rfl rfl) ?_
    refine l_q (q_move (v := .slice _ _ _) rfl rfl) ?_
    refine l_q (q_len rfl Try.underlying48 rfl rfl) ?_
    refine l_q (q_lss rfl rfl rfl) ?_
    refine l_nil ?_
    refine r_forget [(0, .slice _ _ _), (3, .slice _ _ _), (4, .int _ _), (8, .bool _)] ⟨rfl, rfl, rfl, rfl, trivial⟩ (fun e3 => ?_)
    refine r_cond rfl (fun hc4 => ?_) (fun hc4 => ?_)
    · skip
      try simp only [decide_eq_true_eq, decide_eq_false_iff_not, Bool.not_eq_true', Bool.not_eq_false', Bool.not_not, Bool.not_true, Bool.not_false, Bool.not_eq_true, Bool.not_eq_false, Int.not_lt, Int.not_le, Bool.and_eq_true, Bool.or_eq_true, Bool.and_eq_false_iff, Bool.or_eq_false_iff] at hc4
      have hkl : k < L.length := by omega
      have hel := hle _ (getD_lt (d := sv0) hkl)
      refine r_skip ?_
      refine r_seq ?_
      refine r_block ?_
      refine r_region' ?_
      refine l_q (q_move (v := .slice _ _ _) rfl rfl) ?_
      refine l_q (q_move (v := .slice _ _ _) rfl rfl) ?_
      refine l_q (q_move (v := .int _ _) rfl rfl) ?_
      have hr6 := (hlr.below hB).get (i := k) (by omega)
      obtain ⟨b5, o5, ha5, hh5⟩ := (hl.below hB).at1 k ((L).getD k sv0) (getD_some (by omega))
      refine l_q (q_indexAddr1 Try.underlying48 Try.sizeOf25 rfl ha5 rfl (by omega) rfl) ?_
      refine l_q (q_load Try.isAgg25 rfl (hh5) rfl) ?_
      refine l_o (o_call Try.call22 rfl (list_ret _ _ (((L).getD k sv0).xs) _ hr6 (by omega)) rfl ?_)
      rintro _ w7 ⟨a7_0, c7_0, rfl, ho7_0, hE7⟩
      replace ho7_0 := own_mono ho7_0 (show w.heap.size ≤ _ by omega)
      replace hB := below_ext hB hE7 hsz
      replace ho := own_ext ho hE7
      replace hos := hos.ext hE7
      replace hr6 := hr6.ext hE7
      replace hsz := Nat.le_trans hsz hE7.size
      refine l_o (o_buildSlice (el := 25) (cs := [.slice a7_0 (((((L).getD k sv0).xs)).length) c7_0]) Try.underlying48 el25 (by decide) (by kernel_rfl) rfl (by decide) rfl ?_)
      intro b8 w8 hzl8 hzr8 _ hb8 hE8 ho8
      have hbs_b8 : w.heap.size ≤ b8 := Nat.le_trans hsz hzl8
      replace hB := below_ext hB hE8 hsz
      replace ho := own_ext ho hE8
      replace hos := hos.ext hE8
      replace hr6 := hr6.ext hE8
      replace ho7_0 := own_ext ho7_0 hE8
      replace hsz := Nat.le_trans hsz hE8.size
      have hos8 : OwnsI w8 w.heap.size 3 [⟨a7_0, c7_0, (((L).getD k sv0).xs)⟩] := OwnsI.snoc (OwnsI.nil _ _ _) (own_mono ho7_0 (by omega))
      refine l_o (o_append_map (f := SV.enc) (M) ([⟨a7_0, c7_0, (((L).getD k sv0).xs)⟩]) Try.underlying48 el25 rfl rfl ho rfl (Row.of_owns ho8) (fun _ => rfl) (by (try simp only [List.length_append, List.length_cons, List.length_nil, List.length_take, List.length_drop, List.length_replicate]); omega) (by omega) rfl ?_)
      intro a9 c9 w9 hz9 ho9 hG9
      replace hB := below_own hB hG9 ho (by omega) hsz
      replace hsz := Nat.le_trans hsz hG9.size
      replace hos := hos.kept ho (by decide) hG9
      replace ho7_0 := own_kept ho7_0 ho (by decide) hG9
      replace hos8 := hos8.kept ho (by decide) hG9
      refine l_q (q_assign (v := .slice _ _ _) rfl rfl) ?_
      refine l_nil ?_
      refine r_forget [(0, .slice _ _ _), (3, .slice _ _ _), (4, .int _ _)] ⟨rfl, rfl, rfl, trivial⟩ (fun e10 => ?_)
      refine r_inBlock ?_
      refine r_region' ?_
      refine l_q (q_move (v := .int _ _) rfl rfl) ?_
      refine l_q (q_add rfl rfl (by omega) rfl) ?_
      refine l_q (q_assign (v := .int _ _) rfl rfl) ?_
      refine l_nil ?_
      refine r_forget [(0, .slice _ _ _), (3, .slice _ _ _), (4, .int _ _)] ⟨rfl, rfl, rfl, trivial⟩ (fun e11 => ?_)
      exact ih2 (k + 1, a9, c9, M ++ [⟨a7_0, c7_0, (((L).getD k sv0).xs)⟩]) _ _ ⟨⟨rfl, by first | rfl | exact vint_eq (by omega), by first | rfl | exact vint_eq (by omega), trivial⟩, (by omega), (sv_snoc hkl hM), (by rw [List.length_append, hMl]; rfl), ho9, (OwnsI.snoc hos (own_mono ho7_0 (by omega))), hsz, hB⟩ (by first | omega | (dsimp only; omega))
    · skip
      try simp only [decide_eq_true_eq, decide_eq_false_iff_not, Bool.not_eq_true', Bool.not_eq_false', Bool.not_not, Bool.not_true, Bool.not_false, Bool.not_eq_true, Bool.not_eq_false, Int.not_lt, Int.not_le, Bool.and_eq_true, Bool.or_eq_true, Bool.and_eq_false_iff, Bool.or_eq_false_iff] at hc4
      refine r_exit rfl ?_
      refine r_seq ?_
      refine r_region' ?_
      refine l_q (q_move (v := .slice _ _ _) rfl rfl) ?_
      refine l_q (q_assign (v := .slice _ _ _) rfl rfl) ?_
      refine l_nil ?_
      refine r_forget [(2, .slice _ _ _)] ⟨rfl, trivial⟩ (fun e12 => ?_)
      refine r_ret_ (vs := [.slice _ _ _]) rfl Try.func38 rfl (.nil _) ⟨rfl, trivial⟩ ?_
      exact ⟨oa, oc, M, rfl, ho, hos, (by rw [hM, List.take_of_length_le (by omega)]), Ext.of_below hB⟩
theorem awake_ret (w : World) : Ret Try.prog 18 [] w (fun v w' => v = .bool true ∧ Ext w w') := by
  have hB := Below.refl w.heap.size w
  have hsz : w.heap.size ≤ w.heap.size := Nat.le_refl _
  refine ret_of_runs (args := []) Try.func18 rfl (Nat.le_of_ble_eq_true rfl) (by kernel_rfl) ?_
  refine r_seq ?_
  refine r_region' ?_
  refine l_q (q_assign (v := .bool _) rfl rfl) ?_
  refine l_nil ?_
  refine r_forget [] trivial (fun e1 => ?_)
  refine r_seq ?_
  refine r_region' ?_
  refine l_o (o_call Try.call46 rfl (three_ret _) rfl ?_)
  rintro _ w2 ⟨ca2, cc2, rfl, hrc2, hE2⟩
  replace hB := below_ext hB hE2 hsz
  replace hsz := Nat.le_trans hsz hE2.size
  refine l_o (o_buildSlice (el := 3) (cs := [vint 1, vint 0]) Try.underlying25 el3 (by decide) (by kernel_rfl) rfl (by decide) rfl ?_)
  intro b3 w3 hzl3 hzr3 _ hb3 hE3 ho3
  have hszq3 : w.heap.size ≤ w2.heap.size := hsz
  have hbs_b3 : w.heap.size ≤ b3 := Nat.le_trans hsz hzl3
  replace hB := below_ext hB hE3 hsz
  replace hrc2 := hrc2.ext hE3
  replace hsz := Nat.le_trans hsz hE3.size
  refine l_o (o_call Try.call21 rfl (send_ret _ _ three _ _ [1, 0] _ hrc2 (by decide) (Row.of_owns ho3) (by decide) three_le) rfl ?_)
  rintro _ w4 ⟨rfl, hE4⟩
  replace hB := below_ext hB hE4 hsz
  replace hrc2 := hrc2.ext hE4
  replace ho3 := own_ext ho3 hE4
  replace hsz := Nat.le_trans hsz hE4.size
  refine l_q (q_move (v := .tuple _) rfl rfl) ?_
  refine l_q (q_extract (vs := [_, _]) (v := .string _) rfl rfl rfl) ?_
  refine l_q (q_extract (vs := [_, _]) (v := .int _ _) rfl rfl rfl) ?_
  refine l_q (q_assign (v := .string _) rfl rfl) ?_
  refine l_q (q_assign (v := .int _ _) rfl rfl) ?_
  refine l_nil ?_
  refine r_forget [(1, .string _), (2, .int _ _)] ⟨rfl, rfl, trivial⟩ (fun e5 => ?_)
  refine r_seq ?_
  refine r_region' ?_
  refine l_o (o_call Try.call26 rfl (errors_ret [45, 32, 46] [46, 46, 32, 46] _ (by decide) (by decide)) rfl ?_)
  rintro _ w6 ⟨rfl, hE6⟩
  replace hB := below_ext hB hE6 hsz
  replace hrc2 := hrc2.ext hE6
  replace ho3 := own_ext ho3 hE6
  replace hsz := Nat.le_trans hsz hE6.size
  refine l_q (q_move (v := .tuple _) rfl rfl) ?_
  refine l_q (q_extract (vs := [_, _]) (v := .int _ _) rfl rfl rfl) ?_
  refine l_q (q_extract (vs := [_, _]) (v := .int _ _) rfl rfl rfl) ?_
  refine l_q (q_assign (v := .int _ _) rfl rfl) ?_
  refine l_q (q_assign (v := .int _ _) rfl rfl) ?_
  refine l_nil ?_
  refine r_forget [(1, .string _), (2, .int _ _), (3, .int _ _), (4, .int _ _)] ⟨rfl, rfl, rfl, rfl, trivial⟩ (fun e7 => ?_)
  refine r_seq ?_
  refine r_region' ?_
  refine l_o (o_call Try.call27 rfl (explain_ret [45, 32, 46] [46, 46, 32, 46] _ (by decide) (by decide)) rfl ?_)
  rintro _ w8 ⟨a8_0, c8_0, rfl, ho8_0, hE8⟩
  replace ho8_0 := own_mono ho8_0 (show w.heap.size ≤ _ by omega)
  replace hB := below_ext hB hE8 hsz
  replace hrc2 := hrc2.ext hE8
  replace ho3 := own_ext ho3 hE8
  replace hsz := Nat.le_trans hsz hE8.size
  refine l_q (q_move (v := .tuple _) rfl rfl) ?_
  refine l_q (q_extract (vs := [_, _]) (v := .slice _ _ _) rfl rfl rfl) ?_
  refine l_q (q_extract (vs := [_, _]) (v := .int _ _) rfl rfl rfl) ?_
  refine l_q (q_assign (v := .slice _ _ _) rfl rfl) ?_
  refine l_q (q_assign (v := .int _ _) rfl rfl) ?_
  refine l_nil ?_
  refine r_forget [(1, .string _), (2, .int _ _), (3, .int _ _), (4, .int _ _), (5, .slice _ _ _), (6, .int _ _)] ⟨rfl, rfl, rfl, rfl, rfl, rfl, trivial⟩ (fun e9 => ?_)
  refine r_seq ?_
  refine r_region' ?_
  refine l_o (o_call Try.call46 rfl (three_ret _) rfl ?_)
  rintro _ w10 ⟨ca10, cc10, rfl, hrc10, hE10⟩
  replace hB := below_ext hB hE10 hsz
  replace hrc2 := hrc2.ext hE10
  replace ho3 := own_ext ho3 hE10
  replace ho8_0 := own_ext ho8_0 hE10
  replace hsz := Nat.le_trans hsz hE10.size
  refine l_o (o_call Try.call32 rfl (texts2_ret _ _ three [46, 46] 1 2 _ hrc10 (by decide) three_le (by decide)) rfl ?_)
  have hszp11 : w.heap.size ≤ w10.heap.size := hsz
  rintro _ w11 ⟨oa11, oc11, L11, rfl, ho11, hos11, hm11, hE11⟩
  replace ho11 := own_mono ho11 (show w.heap.size ≤ _ by omega)
  replace hB := below_ext hB hE11 hsz
  replace hrc2 := hrc2.ext hE11
  replace ho3 := own_ext ho3 hE11
  replace ho8_0 := own_ext ho8_0 hE11
  replace hrc10 := hrc10.ext hE11
  replace hsz := Nat.le_trans hsz hE11.size
  have hmt := hm11
  refine l_q (q_move (v := .tuple _) rfl rfl) ?_
  refine l_q (q_extract (vs := [_, _]) (v := .slice _ _ _) rfl rfl rfl) ?_
  refine l_q (q_extract (vs := [_, _]) (v := .int _ _) rfl rfl rfl) ?_
  refine l_q (q_assign (v := .slice _ _ _) rfl rfl) ?_
  refine l_q (q_assign (v := .int _ _) rfl rfl) ?_
  refine l_nil ?_
  refine r_forget [(1, .string _), (2, .int _ _), (3, .int _ _), (4, .int _ _), (5, .slice _ _ _), (6, .int _ _), (7, .slice _ _ _), (8, .int _ _)] ⟨rfl, rfl, rfl, rfl, rfl, rfl, rfl, rfl, trivial⟩ (fun e12 => ?_)
  refine r_seq ?_
  refine r_region' ?_
  refine l_o (o_buildSlice (el := 3) (cs := [vint 0, vint 1, vint 2]) Try.underlying25 el3 (by decide) (by kernel_rfl) rfl (by decide) rfl ?_)
  intro b13 w13 hzl13 hzr13 _ hb13 hE13 ho13
  have hszq13 : w.heap.size ≤ w11.heap.size := hsz
  have hbs_b13 : w.heap.size ≤ b13 := Nat.le_trans hsz hzl13
  replace hB := below_ext hB hE13 hsz
  replace hrc2 := hrc2.ext hE13
  replace ho3 := own_ext ho3 hE13
  replace ho8_0 := own_ext ho8_0 hE13
  replace hrc10 := hrc10.ext hE13
  replace ho11 := own_ext ho11 hE13
  replace hos11 := hos11.ext hE13
  replace hsz := Nat.le_trans hsz hE13.size
  refine l_o (o_buildSlice (el := 3) (cs := [vint 0, vint 2, vint 2]) Try.underlying25 el3 (by decide) (by kernel_rfl) rfl (by decide) rfl ?_)
  intro b14 w14 hzl14 hzr14 _ hb14 hE14 ho14
  have hszq14 : w.heap.size ≤ w13.heap.size := hsz
  have hbs_b14 : w.heap.size ≤ b14 := Nat.le_trans hsz hzl14
  replace hB := below_ext hB hE14 hsz
  replace hrc2 := hrc2.ext hE14
  replace ho3 := own_ext ho3 hE14
  replace ho8_0 := own_ext ho8_0 hE14
  replace hrc10 := hrc10.ext hE14
  replace ho11 := own_ext ho11 hE14
  replace hos11 := hos11.ext hE14
  replace ho13 := own_ext ho13 hE14
  replace hsz := Nat.le_trans hsz hE14.size
  refine l_o (o_buildSlice (el := 3) (cs := [vint 0, vint 1]) Try.underlying25 el3 (by decide) (by kernel_rfl) rfl (by decide) rfl ?_)
  intro b15 w15 hzl15 hzr15 _ hb15 hE15 ho15
  have hszq15 : w.heap.size ≤ w14.heap.size := hsz
  have hbs_b15 : w.heap.size ≤ b15 := Nat.le_trans hsz hzl15
  replace hB := below_ext hB hE15 hsz
  replace hrc2 := hrc2.ext hE15
  replace ho3 := own_ext ho3 hE15
  replace ho8_0 := own_ext ho8_0 hE15
  replace hrc10 := hrc10.ext hE15
  replace ho11 := own_ext ho11 hE15
  replace hos11 := hos11.ext hE15
  replace ho13 := own_ext ho13 hE15
  replace ho14 := own_ext ho14 hE15
  replace hsz := Nat.le_trans hsz hE15.size
  refine l_o (o_buildSlice (el := 25) (cs := [.slice (some ⟨b13, 0, none⟩) 3 3, .slice (some ⟨b14, 0, none⟩) 3 3, .slice (some ⟨b15, 0, none⟩) 2 2]) Try.underlying48 el25 (by decide) (by kernel_rfl) rfl (by decide) rfl ?_)
  intro b16 w16 hzl16 hzr16 _ hb16 hE16 ho16
  have hszq16 : w.heap.size ≤ w15.heap.size := hsz
  have hbs_b16 : w.heap.size ≤ b16 := Nat.le_trans hsz hzl16
  replace hB := below_ext hB hE16 hsz
  replace hrc2 := hrc2.ext hE16
  replace ho3 := own_ext ho3 hE16
  replace ho8_0 := own_ext ho8_0 hE16
  replace hrc10 := hrc10.ext hE16
  replace ho11 := own_ext ho11 hE16
  replace hos11 := hos11.ext hE16
  replace ho13 := own_ext ho13 hE16
  replace ho14 := own_ext ho14 hE16
  replace ho15 := own_ext ho15 hE16
  replace hsz := Nat.le_trans hsz hE16.size
  have hos16 : OwnsI w16 w.heap.size 3 [⟨some ⟨b13, 0, none⟩, 3, [0, 1, 2]⟩, ⟨some ⟨b14, 0, none⟩, 3, [0, 2, 2]⟩, ⟨some ⟨b15, 0, none⟩, 2, [0, 1]⟩] := OwnsI.snoc (OwnsI.snoc (OwnsI.snoc (OwnsI.nil _ _ _) (own_mono ho13 (by omega))) (own_mono ho14 (by omega))) (own_mono ho15 (by omega))
  refine l_o (o_call Try.call37 rfl (frepeat_ret _ _ [⟨some ⟨b13, 0, none⟩, 3, [0, 1, 2]⟩, ⟨some ⟨b14, 0, none⟩, 3, [0, 2, 2]⟩, ⟨some ⟨b15, 0, none⟩, 2, [0, 1]⟩] _ (Row.of_owns ho16) hos16.rows (by simp) (by simp)) rfl ?_)
  rintro _ w17 ⟨rfl, hE17⟩
  replace hB := below_ext hB hE17 hsz
  replace hrc2 := hrc2.ext hE17
  replace ho3 := own_ext ho3 hE17
  replace ho8_0 := own_ext ho8_0 hE17
  replace hrc10 := hrc10.ext hE17
  replace ho11 := own_ext ho11 hE17
  replace hos11 := hos11.ext hE17
  replace ho13 := own_ext ho13 hE17
  replace ho14 := own_ext ho14 hE17
  replace ho15 := own_ext ho15 hE17
  replace hos16 := hos16.ext hE17
  replace ho16 := own_ext ho16 hE17
  replace hsz := Nat.le_trans hsz hE17.size
  refine l_q (q_move (v := .tuple _) rfl rfl) ?_
  refine l_q (q_extract (vs := [_, _, _]) (v := .int _ _) rfl rfl rfl) ?_
  refine l_q (q_extract (vs := [_, _, _]) (v := .int _ _) rfl rfl rfl) ?_
  refine l_q (q_extract (vs := [_, _, _]) (v := .int _ _) rfl rfl rfl) ?_
  refine l_q (q_assign (v := .int _ _) rfl rfl) ?_
  refine l_q (q_assign (v := .int _ _) rfl rfl) ?_
  refine l_q (q_assign (v := .int _ _) rfl rfl) ?_
  refine l_nil ?_
  refine r_forget [(1, .string _), (2, .int _ _), (3, .int _ _), (4, .int _ _), (5, .slice _ _ _), (6, .int _ _), (7, .slice _ _ _), (8, .int _ _), (9, .int _ _), (10, .int _ _), (11, .int _ _)] ⟨rfl, rfl, rfl, rfl, rfl, rfl, rfl, rfl, rfl, rfl, rfl, trivial⟩ (fun e18 => ?_)
  refine r_seq ?_
  refine r_region' ?_
  refine l_q (q_move (v := .int _ _) rfl rfl) ?_
  refine l_q (q_eql rfl rfl rfl) ?_
  refine l_q (q_move (v := .bool _) rfl rfl) ?_
  have hk19 : (decide (((send three [1, 0]).2) = 0)) = true := by decide +kernel
  refine l_part 42 rfl (fun _ => ?_) (fun hx => absurd (hk19.symm.trans hx) (by decide))
  refine l_q (q_move (v := .string _) rfl rfl) ?_
  refine l_q (q_eql_str rfl rfl rfl) ?_
  refine l_q (q_pick_t (v := .bool _) rfl rfl rfl) ?_
  refine l_q (q_move (v := .bool _) rfl rfl) ?_
  have hk20 : (decide (((send three [1, 0]).1) = [45, 32, 46])) = true := by decide +kernel
  refine l_part 46 rfl (fun _ => ?_) (fun hx => absurd (hk20.symm.trans hx) (by decide))
  refine l_q (q_move (v := .int _ _) rfl rfl) ?_
  refine l_q (q_eql rfl rfl rfl) ?_
  refine l_q (q_pick_t (v := .bool _) rfl rfl rfl) ?_
  refine l_q (q_move (v := .bool _) rfl rfl) ?_
  have hk21 : (decide (((errs [45, 32, 46] [46, 46, 32, 46]).2) = 0)) = true := by decide +kernel
  refine l_part 50 rfl (fun _ => ?_) (fun hx => absurd (hk21.symm.trans hx) (by decide))
  refine l_q (q_move (v := .int _ _) rfl rfl) ?_
  refine l_q (q_eql rfl rfl rfl) ?_
  refine l_q (q_pick_t (v := .bool _) rfl rfl rfl) ?_
  refine l_q (q_move (v := .bool _) rfl rfl) ?_
  have hk22 : (decide (((errs [45, 32, 46] [46, 46, 32, 46]).1) = 1)) = true := by decide +kernel
  refine l_part 54 rfl (fun _ => ?_) (fun hx => absurd (hk22.symm.trans hx) (by decide))
  refine l_q (q_move (v := .int _ _) rfl rfl) ?_
  refine l_q (q_eql rfl rfl rfl) ?_
  refine l_q (q_pick_t (v := .bool _) rfl rfl rfl) ?_
  refine l_q (q_move (v := .bool _) rfl rfl) ?_
  have hk23 : (decide (((errs [45, 32, 46] [46, 46, 32, 46]).2) = 0)) = true := by decide +kernel
  refine l_part 58 rfl (fun _ => ?_) (fun hx => absurd (hk23.symm.trans hx) (by decide))
  refine l_q (q_move (v := .slice _ _ _) rfl rfl) ?_
  refine l_o (o_buildSlice (el := 3) (cs := [vint 2, vint 0, vint 0]) Try.underlying25 el3 (by decide) (by kernel_rfl) rfl (by decide) rfl ?_)
  intro b24 w24 hzl24 hzr24 _ hb24 hE24 ho24
  have hszq24 : w.heap.size ≤ w17.heap.size := hsz
  have hbs_b24 : w.heap.size ≤ b24 := Nat.le_trans hsz hzl24
  replace hB := below_ext hB hE24 hsz
  replace hrc2 := hrc2.ext hE24
  replace ho3 := own_ext ho3 hE24
  replace ho8_0 := own_ext ho8_0 hE24
  replace hrc10 := hrc10.ext hE24
  replace ho11 := own_ext ho11 hE24
  replace hos11 := hos11.ext hE24
  replace ho13 := own_ext ho13 hE24
  replace ho14 := own_ext ho14 hE24
  replace ho15 := own_ext ho15 hE24
  replace hos16 := hos16.ext hE24
  replace ho16 := own_ext ho16 hE24
  replace hsz := Nat.le_trans hsz hE24.size
  refine l_o (o_call Try.call30 rfl (same_ret _ _ (exL [45, 32, 46] [46, 46, 32, 46]) _ _ [2, 0, 0] _ (Row.of_owns ho8_0) (by rw [ex_awake]; decide) (Row.of_owns ho24) (by decide)) rfl ?_)
  rintro _ w25 ⟨rfl, hE25⟩
  replace hB := below_ext hB hE25 hsz
  replace hrc2 := hrc2.ext hE25
  replace ho3 := own_ext ho3 hE25
  replace ho8_0 := own_ext ho8_0 hE25
  replace hrc10 := hrc10.ext hE25
  replace ho11 := own_ext ho11 hE25
  replace hos11 := hos11.ext hE25
  replace ho13 := own_ext ho13 hE25
  replace ho14 := own_ext ho14 hE25
  replace ho15 := own_ext ho15 hE25
  replace hos16 := hos16.ext hE25
  replace ho16 := own_ext ho16 hE25
  replace ho24 := own_ext ho24 hE25
  replace hsz := Nat.le_trans hsz hE25.size
  refine l_q (q_pick_t (v := .bool _) rfl rfl rfl) ?_
  refine l_q (q_move (v := .bool _) rfl rfl) ?_
  have hk26 : (decide ((exL [45, 32, 46] [46, 46, 32, 46]) = [2, 0, 0])) = true := by rw [ex_awake]; decide
  refine l_part 63 rfl (fun _ => ?_) (fun hx => absurd (hk26.symm.trans hx) (by decide))
  refine l_q (q_move (v := .int _ _) rfl rfl) ?_
  refine l_q (q_eql rfl rfl rfl) ?_
  refine l_q (q_pick_t (v := .bool _) rfl rfl rfl) ?_
  refine l_q (q_move (v := .bool _) rfl rfl) ?_
  have hk27 : (decide ((txErr three [46, 46] 1 2) = 0)) = true := by decide +kernel
  refine l_part 67 rfl (fun _ => ?_) (fun hx => absurd (hk27.symm.trans hx) (by decide))
  refine l_q (q_move (v := .slice _ _ _) rfl rfl) ?_
  refine l_o (o_buildSlice (el := 3) (cs := [vint 1]) Try.underlying25 el3 (by decide) (by kernel_rfl) rfl (by decide) rfl ?_)
  intro b28 w28 hzl28 hzr28 _ hb28 hE28 ho28
  have hszq28 : w.heap.size ≤ w25.heap.size := hsz
  have hbs_b28 : w.heap.size ≤ b28 := Nat.le_trans hsz hzl28
  replace hB := below_ext hB hE28 hsz
  replace hrc2 := hrc2.ext hE28
  replace ho3 := own_ext ho3 hE28
  replace ho8_0 := own_ext ho8_0 hE28
  replace hrc10 := hrc10.ext hE28
  replace ho11 := own_ext ho11 hE28
  replace hos11 := hos11.ext hE28
  replace ho13 := own_ext ho13 hE28
  replace ho14 := own_ext ho14 hE28
  replace ho15 := own_ext ho15 hE28
  replace hos16 := hos16.ext hE28
  replace ho16 := own_ext ho16 hE28
  replace ho24 := own_ext ho24 hE28
  replace hsz := Nat.le_trans hsz hE28.size
  refine l_o (o_buildSlice (el := 3) (cs := [vint 2]) Try.underlying25 el3 (by decide) (by kernel_rfl) rfl (by decide) rfl ?_)
  intro b29 w29 hzl29 hzr29 _ hb29 hE29 ho29
  have hszq29 : w.heap.size ≤ w28.heap.size := hsz
  have hbs_b29 : w.heap.size ≤ b29 := Nat.le_trans hsz hzl29
  replace hB := below_ext hB hE29 hsz
  replace hrc2 := hrc2.ext hE29
  replace ho3 := own_ext ho3 hE29
  replace ho8_0 := own_ext ho8_0 hE29
  replace hrc10 := hrc10.ext hE29
  replace ho11 := own_ext ho11 hE29
  replace hos11 := hos11.ext hE29
  replace ho13 := own_ext ho13 hE29
  replace ho14 := own_ext ho14 hE29
  replace ho15 := own_ext ho15 hE29
  replace hos16 := hos16.ext hE29
  replace ho16 := own_ext ho16 hE29
  replace ho24 := own_ext ho24 hE29
  replace ho28 := own_ext ho28 hE29
  replace hsz := Nat.le_trans hsz hE29.size
  refine l_o (o_buildSlice (el := 3) (cs := [vint 0, vint 0]) Try.underlying25 el3 (by decide) (by kernel_rfl) rfl (by decide) rfl ?_)
  intro b30 w30 hzl30 hzr30 _ hb30 hE30 ho30
  have hszq30 : w.heap.size ≤ w29.heap.size := hsz
  have hbs_b30 : w.heap.size ≤ b30 := Nat.le_trans hsz hzl30
  replace hB := below_ext hB hE30 hsz
  replace hrc2 := hrc2.ext hE30
  replace ho3 := own_ext ho3 hE30
  replace ho8_0 := own_ext ho8_0 hE30
  replace hrc10 := hrc10.ext hE30
  replace ho11 := own_ext ho11 hE30
  replace hos11 := hos11.ext hE30
  replace ho13 := own_ext ho13 hE30
  replace ho14 := own_ext ho14 hE30
  replace ho15 := own_ext ho15 hE30
  replace hos16 := hos16.ext hE30
  replace ho16 := own_ext ho16 hE30
  replace ho24 := own_ext ho24 hE30
  replace ho28 := own_ext ho28 hE30
  replace ho29 := own_ext ho29 hE30
  replace hsz := Nat.le_trans hsz hE30.size
  refine l_o (o_buildSlice (el := 25) (cs := [.slice (some ⟨b28, 0, none⟩) 1 1, .slice (some ⟨b29, 0, none⟩) 1 1, .slice (some ⟨b30, 0, none⟩) 2 2]) Try.underlying48 el25 (by decide) (by kernel_rfl) rfl (by decide) rfl ?_)
  intro b31 w31 hzl31 hzr31 _ hb31 hE31 ho31
  have hszq31 : w.heap.size ≤ w30.heap.size := hsz
  have hbs_b31 : w.heap.size ≤ b31 := Nat.le_trans hsz hzl31
  replace hB := below_ext hB hE31 hsz
  replace hrc2 := hrc2.ext hE31
  replace ho3 := own_ext ho3 hE31
  replace ho8_0 := own_ext ho8_0 hE31
  replace hrc10 := hrc10.ext hE31
  replace ho11 := own_ext ho11 hE31
  replace hos11 := hos11.ext hE31
  replace ho13 := own_ext ho13 hE31
  replace ho14 := own_ext ho14 hE31
  replace ho15 := own_ext ho15 hE31
  replace hos16 := hos16.ext hE31
  replace ho16 := own_ext ho16 hE31
  replace ho24 := own_ext ho24 hE31
  replace ho28 := own_ext ho28 hE31
  replace ho29 := own_ext ho29 hE31
  replace ho30 := own_ext ho30 hE31
  replace hsz := Nat.le_trans hsz hE31.size
  have hos31 : OwnsI w31 w.heap.size 3 [⟨some ⟨b28, 0, none⟩, 1, [1]⟩, ⟨some ⟨b29, 0, none⟩, 1, [2]⟩, ⟨some ⟨b30, 0, none⟩, 2, [0, 0]⟩] := OwnsI.snoc (OwnsI.snoc (OwnsI.snoc (OwnsI.nil _ _ _) (own_mono ho28 (by omega))) (own_mono ho29 (by omega))) (own_mono ho30 (by omega))
  refine l_o (o_call Try.call34 rfl (lsame_ret _ _ L11 _ _ [⟨some ⟨b28, 0, none⟩, 1, [1]⟩, ⟨some ⟨b29, 0, none⟩, 1, [2]⟩, ⟨some ⟨b30, 0, none⟩, 2, [0, 0]⟩] _ (Row.of_owns ho11) hos11.rows (by rw [tx_awake hmt]; decide) (tx_aw2 hmt) (Row.of_owns ho31) hos31.rows (by simp) (by simp)) rfl ?_)
  rintro _ w32 ⟨rfl, hE32⟩
  replace hB := below_ext hB hE32 hsz
  replace hrc2 := hrc2.ext hE32
  replace ho3 := own_ext ho3 hE32
  replace ho8_0 := own_ext ho8_0 hE32
  replace hrc10 := hrc10.ext hE32
  replace ho11 := own_ext ho11 hE32
  replace hos11 := hos11.ext hE32
  replace ho13 := own_ext ho13 hE32
  replace ho14 := own_ext ho14 hE32
  replace ho15 := own_ext ho15 hE32
  replace hos16 := hos16.ext hE32
  replace ho16 := own_ext ho16 hE32
  replace ho24 := own_ext ho24 hE32
  replace ho28 := own_ext ho28 hE32
  replace ho29 := own_ext ho29 hE32
  replace ho30 := own_ext ho30 hE32
  replace hos31 := hos31.ext hE32
  replace ho31 := own_ext ho31 hE32
  replace hsz := Nat.le_trans hsz hE32.size
  refine l_q (q_pick_t (v := .bool _) rfl rfl rfl) ?_
  refine l_q (q_move (v := .bool _) rfl rfl) ?_
  have hk33 : (decide ((L11).map (·.xs) = [[1], [2], [0, 0]])) = true := by rw [hmt, tx_awake2]; decide
  refine l_part 75 rfl (fun _ => ?_) (fun hx => absurd (hk33.symm.trans hx) (by decide))
  refine l_q (q_move (v := .int _ _) rfl rfl) ?_
  refine l_q (q_eql rfl rfl rfl) ?_
  refine l_q (q_pick_t (v := .bool _) rfl rfl rfl) ?_
  refine l_q (q_move (v := .bool _) rfl rfl) ?_
  have hk34 : (decide (((repAll [[0, 1, 2], [0, 2, 2], [0, 1]]).2.2) = 0)) = true := by decide +kernel
  refine l_part 79 rfl (fun _ => ?_) (fun hx => absurd (hk34.symm.trans hx) (by decide))
  refine l_q (q_move (v := .int _ _) rfl rfl) ?_
  refine l_q (q_eql rfl rfl rfl) ?_
  refine l_q (q_pick_t (v := .bool _) rfl rfl rfl) ?_
  refine l_q (q_move (v := .bool _) rfl rfl) ?_
  have hk35 : (decide (((repAll [[0, 1, 2], [0, 2, 2], [0, 1]]).1) = 1)) = true := by decide +kernel
  refine l_part 83 rfl (fun _ => ?_) (fun hx => absurd (hk35.symm.trans hx) (by decide))
  refine l_q (q_move (v := .int _ _) rfl rfl) ?_
  refine l_q (q_eql rfl rfl rfl) ?_
  refine l_q (q_pick_t (v := .bool _) rfl rfl rfl) ?_
  refine l_q (q_assign (v := .bool _) rfl rfl) ?_
  refine l_nil ?_
  refine r_forget [(0, .bool _)] ⟨rfl, trivial⟩ (fun e36 => ?_)
  refine r_ret_ (vs := [.bool _]) rfl Try.func18 rfl (.nil _) ⟨rfl, trivial⟩ ?_
  exact ⟨vbool_eq (show decide ((repAll [[0, 1, 2], [0, 2, 2], [0, 1]]).2.1 = 2) = true from by decide +kernel), Ext.of_below hB⟩
end Go.Proofs.Ytkcbgpilfegofaa
