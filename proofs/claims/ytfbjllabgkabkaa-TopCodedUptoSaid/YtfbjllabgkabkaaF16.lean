/- Contracts. -/
import Derived.Test.YtfbjllabgkabkaaF15
import Derived.Test.YtfbjllabgkabkaaGvB
set_option linter.unusedVariables false
set_option linter.unusedSimpArgs false
namespace Go.Proofs.Ytfbjllabgkabkaa
open Go Go.RowKit Go.Gv Go.Fl

theorem row_take {w : World} {b n : Nat} {L : List Int} (h : Blk w b (L.map vint)) (hn : n ≤ L.length) (hl : (L.map vint).length = 41) : Row w (some ⟨b, 0, none⟩) (L.take n).length 41 1 ((L.take n).map vint) := by
  have hl : L.length = 41 := by simpa using hl
  refine ⟨by simp, by rw [List.length_take]; omega, .inr ⟨b, 0, rfl, ?_⟩⟩
  intro j v hj
  refine h.cells0 j v ?_
  rw [List.getElem?_map] at hj ⊢
  rw [List.getElem?_take] at hj
  split at hj
  · exact hj
  · simp at hj
theorem slice_len {b n c : Nat} {i : Int} {L : List Int} (hl : (L.map vint).length = 41) (h : i.toNat = n ∧ n ≤ 41) : Value.slice (some ⟨b, 0, none⟩) i.toNat c = .slice (some ⟨b, 0, none⟩) (L.take n).length c := by
  rw [List.length_take, h.1, show L.length = 41 by simpa using hl, Nat.min_eq_left h.2]
def hopeless (rd : Sg) (er : Int) (R : List Int) : Bool := if R = begunL rd then false else !((R.take (rd.length + 1)).any (fun n => decide (n ≤ er)))


theorem containsFunc_int_of {α : Type} {f : α → Value} {xs : List α} (d : α) {q : α → Bool} {w : World} {a : Option Addr} {c : Nat} {g : FuncId} {fst cap : List Value} (hin : ∀ args w, (callFunc g args).run Try.prog w = .ok (.enter g args) w)
    (hrow : Row w a xs.length c 1 (xs.map f)) (h : ∀ w', Ext w w' → ∀ x ∈ xs, Ret Try.prog g (fst ++ [f x] ++ cap) w' (fun r w'' => r = .bool (q x) ∧ Ext w' w'')) (hn : xs.length ≤ 9223372036854775806) :
    Ret Try.prog 49 [.slice a xs.length c, .func (.func g) ⟨fst⟩ ⟨cap⟩] w (fun v w' => v = .bool (xs.any q) ∧ Ext w w') :=
  (containsFunc_int_ret _ _ _ _ _ _ _ _ _ hrow (predI_of d hin h) hn).mono (fun v w' hx => ⟨by rw [hx.1, range_any xs d q], hx.2⟩)
theorem hopeless_ret (a : Option Addr) (cc : Nat) (c : List Sg) (rd : Sg) (er : Int) (R : List Int) (w : World) (hrow : Row w a c.length cc 1 (c.map vstr)) (hcn : c.length ≤ 2097152) (hrd : rd.length ≤ 40) (hRl : R.length = 41) : Ret Try.prog 64 [.agg ⟨[.slice a c.length cc, vstr rd, vint er]⟩, .agg ⟨(R).map vint⟩] w (fun v w' => v = .bool (hopeless rd er R) ∧ Ext w w') := by
  have hB := Below.refl w.heap.size w
  have hsz : w.heap.size ≤ w.heap.size := Nat.le_refl _
  refine ret_of_runs (args := [_, _]) Try.func64 rfl (Nat.le_of_ble_eq_true rfl) (by kernel_rfl) ?_
  refine r_seq ?_
  refine r_region' ?_
  refine l_o (o_box rfl rfl rfl ?_)
  intro b1 w1 hzl1 hzr1 _ hb1 hE1
  have hbs_b1 : w.heap.size ≤ b1 := Nat.le_trans hsz hzl1
  replace hB := below_ext hB hE1 hsz
  replace hsz := Nat.le_trans hsz hE1.size
  refine l_o (o_box rfl rfl rfl ?_)
  intro b2 w2 hzl2 hzr2 _ hb2 hE2
  have hbs_b2 : w.heap.size ≤ b2 := Nat.le_trans hsz hzl2
  replace hB := below_ext hB hE2 hsz
  replace hb1 := hb1.ext hE2
  replace hsz := Nat.le_trans hsz hE2.size
  refine l_q (q_assign (v := .bool _) rfl rfl) ?_
  refine l_nil ?_
  refine r_forget [(2, .pointer _), (3, .pointer _)] ⟨rfl, rfl, trivial⟩ (fun e3 => ?_)
  refine r_seq ?_
  refine r_seq ?_
  refine r_draw ext_refl' ext_trans' [0, 1, 2, 3] [2] 2 (by kernel_rfl) (by kernel_rfl) ?_
  intro w4 _ hE4
  replace hB := below_ext hB hE4 hsz
  replace hb1 := hb1.ext hE4
  replace hb2 := hb2.ext hE4
  replace hsz := Nat.le_trans hsz hE4.size
  refine m_q rfl rfl (fun w' hC' => q_load_agg (n := 41) Try.isAgg101 Try.sizeOf101 rfl (((hb2.cells0).ext hC')) (by rw [List.length_map]; assumption) rfl) ?_
  refine m_q rfl rfl (fun w' hC' => q_load_agg (n := 3) Try.isAgg82 Try.sizeOf82 rfl (((hb1.cells' (cs' := [_, _, _]) 0 3 rfl).ext hC')) rfl rfl) ?_
  refine m_o rfl rfl (o_call Try.call66 rfl (begun_ret _ _ c rd er _ (hrow.below hB) hcn hrd) rfl ?_)
  rintro _ w5 ⟨rfl, hE5⟩
  refine ⟨hE5, ?_⟩
  replace hB := below_ext hB hE5 hsz
  replace hb1 := hb1.ext hE5
  replace hb2 := hb2.ext hE5
  replace hsz := Nat.le_trans hsz hE5.size
  refine m_q rfl rfl (fun w' hC' => q_eql_ints' Try.underlying101 (by kernel_rfl) (by kernel_rfl) Try.underlying3 Try.isAgg3 (by kernel_rfl) rfl rfl (by assumption) (by exact bl_len rd 41) rfl) ?_
  refine m_nil ?_
  refine r_forget [(2, .pointer _), (3, .pointer _), (8, .bool _)] ⟨rfl, rfl, rfl, trivial⟩ (fun e6 => ?_)
  refine r_cond rfl (fun hc7 => ?_) (fun hc7 => ?_)
  · skip
    try simp only [decide_eq_true_eq, decide_eq_false_iff_not, Bool.not_eq_true', Bool.not_eq_false', Bool.not_not, Bool.not_true, Bool.not_false, Bool.not_eq_true, Bool.not_eq_false, Int.not_lt, Int.not_le, Bool.and_eq_true, Bool.or_eq_true, Bool.and_eq_false_iff, Bool.or_eq_false_iff] at hc7
    have he := hc7
    refine r_seq ?_
    refine r_region' ?_
    refine l_q (q_assign (v := .bool _) rfl rfl) ?_
    refine l_nil ?_
    refine r_forget [(4, .bool _)] ⟨rfl, trivial⟩ (fun e8 => ?_)
    refine r_ret_ (vs := [.bool _]) rfl Try.func64 rfl (.nil _) ⟨rfl, trivial⟩ ?_
    exact ⟨vbool_eq (by rw [hopeless, if_pos he]), Ext.of_below hB⟩
  · skip
    try simp only [decide_eq_true_eq, decide_eq_false_iff_not, Bool.not_eq_true', Bool.not_eq_false', Bool.not_not, Bool.not_true, Bool.not_false, Bool.not_eq_true, Bool.not_eq_false, Int.not_lt, Int.not_le, Bool.and_eq_true, Bool.or_eq_true, Bool.and_eq_false_iff, Bool.or_eq_false_iff] at hc7
    have he := hc7
    refine r_skip ?_
    refine r_seq ?_
    refine r_region' ?_
    refine l_q (q_fieldAddr (o' := 1) rfl fld82_1 rfl) ?_
    refine l_q (q_load Try.isAgg9 rfl ((hb1.has (o := 1) rfl)) rfl) ?_
    refine l_q (q_len_str rfl Try.underlying9 rfl rfl) ?_
    refine l_q (q_add rfl rfl (by omega) rfl) ?_
    have hr9 := row_take (n := rd.length + 1) hb2 (by omega) (by rw [List.length_map]; assumption)
    refine l_q ((q_slice_arr_hi (hi := ((rd).length : Int) + 1) Try.underlying101 Try.sizeOf3 rfl rfl (by omega) (by decide) rfl).cast (slice_len (n := rd.length + 1) (by rw [List.length_map]; assumption) (by omega))) ?_
    refine l_q (q_makeFunc (v := .func _ ⟨[]⟩ ⟨[_]⟩) rfl rfl) ?_
    refine l_o (o_call Try.call49 rfl (containsFunc_int_of 0 Try.call75 hr9 (fun w' hw x hx => pureExt (hopeless1_ret _ _ _ _ _ _ (hb1.ext hw))) (by rw [List.length_take]; omega)) rfl ?_)
    rintro _ w10 ⟨rfl, hE10⟩
    replace hB := below_ext hB hE10 hsz
    replace hb1 := hb1.ext hE10
    replace hb2 := hb2.ext hE10
    replace hr9 := hr9.ext hE10
    replace hsz := Nat.le_trans hsz hE10.size
    refine l_q (q_not rfl rfl) ?_
    refine l_q (q_assign (v := .bool _) rfl rfl) ?_
    refine l_nil ?_
    refine r_forget [(4, .bool _)] ⟨rfl, trivial⟩ (fun e11 => ?_)
    refine r_ret_ (vs := [.bool _]) rfl Try.func64 rfl (.nil _) ⟨rfl, trivial⟩ ?_
    exact ⟨vbool_eq (by rw [hopeless, if_neg he]), Ext.of_below hB⟩
end Go.Proofs.Ytfbjllabgkabkaa
