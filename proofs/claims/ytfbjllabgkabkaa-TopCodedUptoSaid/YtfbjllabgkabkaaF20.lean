/- Contracts. -/
import Derived.Test.YtfbjllabgkabkaaF19
set_option linter.unusedVariables false
set_option linter.unusedSimpArgs false
namespace Go.Proofs.Ytfbjllabgkabkaa
open Go Go.RowKit Go.Gv Go.Fl

def three : List Sg := [[46], [45], [46, 46]]
theorem three_le : ∀ s ∈ three, s.length ≤ 2097152 := by decide
theorem sv_snoc {L M : List SV} {k : Nat} {s : SV} (hk : k < L.length) (h : M.map (·.xs) = (L.take k).map (·.xs)) (hs : s.xs = (L.getD k sv0).xs := by rfl) : (M ++ [s]).map (·.xs) = (L.take (k + 1)).map (·.xs) := by
  rw [List.map_append, h, List.take_add_one, List.getElem?_eq_getElem hk, List.map_append]
  simp only [List.map_cons, List.map_nil, Option.toList_some, hs, List.getD_eq_getElem?_getD, List.getElem?_eq_getElem hk, Option.getD_some]
theorem ex_awake : exL [45, 32, 46] [46, 46, 32, 46] = [2, 0, 0] := by decide +kernel
theorem tx_awake2 : txL three [46, 46] 1 2 = [[1], [2], [0, 0]] := by decide +kernel
theorem tx_awake {L : List SV} (h : L.map (·.xs) = txL three [46, 46] 1 2) : L.length = 3 := by
  have := congrArg List.length h
  rw [List.length_map, tx_awake2] at this
  exact this
theorem tx_aw2 {L : List SV} (h : L.map (·.xs) = txL three [46, 46] 1 2) : ∀ s ∈ L, s.xs.length ≤ 2097152 := by
  intro s hs
  have hm : s.xs ∈ L.map (·.xs) := List.mem_map.2 ⟨s, hs, rfl⟩
  rw [h, tx_awake2] at hm
  simp at hm
  rcases hm with h | h | h <;> rw [h] <;> decide


theorem code_ret (a : Option Addr) (cc : Nat) (c : List Sg) (w : World) (hrow : Row w a c.length cc 1 (c.map vstr)) (hcn : c.length ≤ 2097152) : Ret Try.prog 34 [.agg ⟨[.slice a c.length cc]⟩] w (fun v w' => ∃ ca cc, v = .agg ⟨[.slice ca (c).length cc]⟩ ∧ Row w' ca (c).length cc 1 ((c).map vstr) ∧ Ext w w') := by
  have hB := Below.refl w.heap.size w
  have hsz : w.heap.size ≤ w.heap.size := Nat.le_refl _
  refine ret_of_runs (args := [_]) Try.func34 rfl (Nat.le_of_ble_eq_true rfl) (by kernel_rfl) ?_
  refine r_seq ?_
  refine r_region' ?_
  refine l_o (o_box rfl rfl rfl ?_)
  intro b1 w1 hzl1 hzr1 _ hb1 hE1
  have hbs_b1 : w.heap.size ≤ b1 := Nat.le_trans hsz hzl1
  replace hB := below_ext hB hE1 hsz
  replace hsz := Nat.le_trans hsz hE1.size
  refine l_o (o_alloc Try.zeroValue58 rfl rfl ?_)
  intro b2 w2 hzl2 hzr2 _ hb2 hE2
  have hbs_b2 : w.heap.size ≤ b2 := Nat.le_trans hsz hzl2
  replace hB := below_ext hB hE2 hsz
  replace hb1 := hb1.ext hE2
  replace hsz := Nat.le_trans hsz hE2.size
  refine l_nil ?_
  refine r_forget [(1, .pointer _), (2, .pointer _)] ⟨rfl, rfl, trivial⟩ (fun e3 => ?_)
  refine r_seq ?_
  refine r_region' ?_
  refine l_o (o_buildSlice (el := 9) (cs := []) Try.underlying22 el9 (by decide) (by kernel_rfl) rfl (by decide) rfl ?_)
  intro b4 w4 hzl4 hzr4 _ hb4 hE4 ho4
  have hbs_b4 : w.heap.size ≤ b4 := Nat.le_trans hsz hzl4
  replace hB := below_ext hB hE4 hsz
  replace hb1 := hb1.ext hE4
  replace hb2 := hb2.ext hE4
  replace hsz := Nat.le_trans hsz hE4.size
  refine l_q (q_fieldAddr (o' := 0) rfl fld24_0 rfl) ?_
  refine l_q (q_load Try.isAgg22 rfl ((hb1.has (o := 0) rfl)) rfl) ?_
  refine l_o (o_append_map (f := vstr) ([]) (c) Try.underlying22 el9 rfl rfl ho4 rfl (hrow.below hB) (fun _ => rfl) (by (try simp only [List.length_append, List.length_cons, List.length_nil, List.length_take, List.length_drop, List.length_replicate]); omega) (by omega) rfl ?_)
  intro a5 c5 w5 hz5 ho5 hG5
  replace hB := below_own hB hG5 ho4 (by omega) hsz
  replace hsz := Nat.le_trans hsz hG5.size
  replace hb1 := hb1.step hG5 (own_ne ho4 (by omega))
  replace hb2 := hb2.step hG5 (own_ne ho4 (by omega))
  refine l_q (q_build (v := .agg ⟨[.slice a5 (([] ++ c).length) c5]⟩) (fun w => by kernel_rfl) rfl) ?_
  refine l_o (o_store (vs := [.slice a5 (([] ++ c).length) c5]) (cs' := [.slice a5 (([] ++ c).length) c5]) Try.sizeOf58 rfl rfl rfl rfl hb2 (Nat.le_of_ble_eq_true rfl) rfl rfl ?_)
  intro w6 hz6 hb2 hG6
  replace hB := below_upd hB hG6 hsz (by omega)
  replace hsz : w.heap.size ≤ w6.heap.size := by rw [hz6]; exact hsz
  replace hb1 := hb1.upd hG6 (by omega)
  replace ho5 := own_updlt ho5 hG6 (by omega)
  refine l_nil ?_
  refine r_forget [(2, .pointer _)] ⟨rfl, trivial⟩ (fun e7 => ?_)
  refine r_ret_ (vs := [.agg _]) rfl Try.func34 rfl (.nil _) ⟨⟨_, _, rfl, run_loadVarA Try.isAgg58 Try.sizeOf58 (hb2.cells' (cs' := [_]) 0 1 rfl) rfl⟩, trivial⟩ ?_
  exact ⟨_, _, rfl, Row.of_owns ho5, Ext.of_below hB⟩
end Go.Proofs.Ytfbjllabgkabkaa
