/- Contracts. -/
import Derived.Test.YtfbjllabgkabkaaF17
set_option linter.unusedVariables false
set_option linter.unusedSimpArgs false
namespace Go.Proofs.Ytfbjllabgkabkaa
open Go Go.RowKit Go.Gv Go.Fl

theorem begun_b (rd : Sg) (i : Nat) : 0 ≤ (begunL rd).getD i 0 ∧ (begunL rd).getD i 0 ≤ 1048576 := by
  by_cases h : i < 41
  · rw [begunL, bl_get h (by omega)]; exact bv_bounds rd i
  · have : (begunL rd).getD i 0 = 0 := by
      rw [List.getD_eq_getElem?_getD, List.getElem?_eq_none (by rw [begunL, bl_len rd 41]; omega)]; rfl
    rw [this]; decide
theorem OwnsI.upd {w w' : World} {B el b : Nat} {l : List SV} (h : OwnsI w B el l) (hg : w.grownBy w' (some b)) (hb : b < B) : OwnsI w' B el l := fun s hs => own_updlt (h s hs) hg hb
theorem capN_le {n d : Nat} (h : n ≤ 6) : capN n d ≤ 6 ^ d := by
  induction d with
  | zero => exact Nat.le_refl _
  | succ d ih => rw [capN, Nat.pow_succ, Nat.mul_comm (6 ^ d)]; exact Nat.mul_le_mul h ih
theorem capN_7776 {n d : Nat} (h : n ≤ 6) (hd : d ≤ 5) : capN n d ≤ 7776 := Nat.le_trans (capN_le h) (by
  have : 6 ^ d ≤ 6 ^ 5 := Nat.pow_le_pow_right (by decide) hd
  simpa using this)
theorem capN_small {n d : Nat} (h : n ≤ 6) (hd : d ≤ 5) : capN n d ≤ 1073741824 := by have := capN_7776 h hd; omega
theorem addL_small {c : List Sg} {rd : Sg} {er : Int} {d : Nat} {t R : List Int} {L : List SV} (h : c.length ≤ 6) (hd : d ≤ 5) (hm : L.map (·.xs) = addL c rd er d t R) : L.length ≤ 7776 := by
  have h1 := congrArg List.length hm
  rw [List.length_map] at h1
  have := addL_len c rd er d t R
  have := capN_7776 h hd
  omega
theorem code_short {c : List Sg} (h : fault c = 0) : ∀ s ∈ c, s.length ≤ 4 := by
  intro s hs
  obtain ⟨i, hi, rfl⟩ := List.mem_iff_getElem.1 hs
  have := letter_len ((fault_zero h).2.2 i hi).1
  rw [List.getD_eq_getElem?_getD, List.getElem?_eq_getElem hi] at this
  exact this.2
theorem chk_one {s : Sg} (h : chk [s] = 0) : s.length ≤ 40 := by
  unfold chk at h
  split at h
  · rename_i h1; simp at h1; omega
  · cases h
def txErr (c : List Sg) (rd : Sg) (er le : Int) : Int := if ¬ fault c = 0 then fault c else if ¬ chk [rd] = 0 then chk [rd] else if (0 ≤ er ∧ er ≤ 3) ∧ 0 ≤ le ∧ le ≤ 5 then 0 else 2
def txL (c : List Sg) (rd : Sg) (er le : Int) : List (List Int) := if txErr c rd er le = 0 then (List.range (le.toNat + 1)).flatMap (fun (m : Nat) => addL c rd er m [] (begunL rd)) else []
theorem txL_bad {c : List Sg} {rd : Sg} {er le : Int} (h : ¬ txErr c rd er le = 0) : txL c rd er le = [] := if_neg h
theorem tx_err1 {c : List Sg} {rd : Sg} {er le : Int} (h : ¬ fault c = 0) : txErr c rd er le = fault c := if_pos h
theorem tx_err2 {c : List Sg} {rd : Sg} {er le : Int} (h : fault c = 0) (h2 : ¬ chk [rd] = 0) : txErr c rd er le = chk [rd] := by rw [txErr, if_neg (by simpa using h), if_pos h2]
theorem tx_err3 {c : List Sg} {rd : Sg} {er le : Int} (h : fault c = 0) (h2 : chk [rd] = 0) (h3 : ¬ ((0 ≤ er ∧ er ≤ 3) ∧ 0 ≤ le ∧ le ≤ 5)) : txErr c rd er le = 2 := by rw [txErr, if_neg (by simpa using h), if_neg (by simpa using h2), if_neg h3]
theorem tx_ok {c : List Sg} {rd : Sg} {er le : Int} (h : fault c = 0) (h2 : chk [rd] = 0) (h3 : (0 ≤ er ∧ er ≤ 3) ∧ 0 ≤ le ∧ le ≤ 5) : txErr c rd er le = 0 := by rw [txErr, if_neg (by simpa using h), if_neg (by simpa using h2), if_pos h3]

theorem el9 : Elem Try.prog 9 (vstr []) 1 16 := elem_of (by kernel_rfl) rfl (by decide)
theorem add_ret : ∀ (d : Nat) (K : AK) (w : World), K.d = d → AddH K w → Ret Try.prog 63 [.slice K.ta K.t.length K.tc, .agg ⟨K.R.map vint⟩, ptr K.bt 0, ptr K.bl 0, ptr K.bo 0, ptr K.ba 0] w (AddP K w) := by
  intro d
  induction d with
  | zero => exact fun K w hd hH => add_step 0 K w hd hH (fun dd h => by omega)
  | succ d ih => exact fun K w hd hH => add_step (d + 1) K w hd hH (fun dd h w1 K1 hd1 hH1 => ih K1 w1 (by omega) hH1)
theorem texts_ret (a : Option Addr) (cc : Nat) (c : List Sg) (rd : Sg) (er : Int) (n : Nat) (w : World) (hrow : Row w a c.length cc 1 (c.map vstr)) (hcn : c.length ≤ 2097152) (hrd : rd.length ≤ 40) (hcl : ∀ s ∈ c, s.length ≤ 4) (hcap : capN c.length n ≤ 1073741824) (hn : n ≤ 2097152) : Ret Try.prog 44 [.agg ⟨[.slice a c.length cc, vstr rd, vint er]⟩, vint (n : Int)] w (fun v w' => ∃ oa oc L2, v = .slice oa L2.length oc ∧ w'.ownsRow w.heap.size 26 1 (.slice oa L2.length oc) L2.length (L2.map SV.enc) ∧ OwnsI w' w.heap.size 3 L2 ∧ L2.map (·.xs) = addL c rd er n [] (begunL rd) ∧ Ext w w') := by
  have hB := Below.refl w.heap.size w
  have hsz : w.heap.size ≤ w.heap.size := Nat.le_refl _
  refine ret_of_runs (args := [_, _]) Try.func44 rfl (Nat.le_of_ble_eq_true rfl) (by kernel_rfl) ?_
  refine r_seq ?_
  refine r_region' ?_
  refine l_o (o_box rfl rfl rfl ?_)
  intro b1 w1 hzl1 hzr1 _ hb1 hE1
  have hbs_b1 : w.heap.size ≤ b1 := Nat.le_trans hsz hzl1
  replace hB := below_ext hB hE1 hsz
  replace hsz := Nat.le_trans hsz hE1.size
  refine l_o (o_box rfl rfl rfl ?_)
  intro b2 w2 hzl2 hzr2 _ hb2 hE2
  have hne_b1_b2 : b1 ≠ b2 := by have := hb1.lt; omega
  have hbs_b2 : w.heap.size ≤ b2 := Nat.le_trans hsz hzl2
  replace hB := below_ext hB hE2 hsz
  replace hb1 := hb1.ext hE2
  replace hsz := Nat.le_trans hsz hE2.size
  refine l_o (o_alloc Try.zeroValue55 rfl rfl ?_)
  intro b3 w3 hzl3 hzr3 _ hb3 hE3
  have hne_b1_b3 : b1 ≠ b3 := by have := hb1.lt; omega
  have hne_b2_b3 : b2 ≠ b3 := by have := hb2.lt; omega
  have hbs_b3 : w.heap.size ≤ b3 := Nat.le_trans hsz hzl3
  replace hB := below_ext hB hE3 hsz
  replace hb1 := hb1.ext hE3
  replace hb2 := hb2.ext hE3
  replace hsz := Nat.le_trans hsz hE3.size
  refine l_nil ?_
  refine r_forget [(2, .pointer _), (3, .pointer _), (4, .pointer _)] ⟨rfl, rfl, rfl, trivial⟩ (fun e4 => ?_)
  refine r_seq ?_
  refine r_region' ?_
  refine l_o (o_alloc Try.zeroValue99 rfl rfl ?_)
  intro b5 w5 hzl5 hzr5 _ hb5 hE5
  have hne_b1_b5 : b1 ≠ b5 := by have := hb1.lt; omega
  have hne_b2_b5 : b2 ≠ b5 := by have := hb2.lt; omega
  have hne_b3_b5 : b3 ≠ b5 := by have := hb3.lt; omega
  have hbs_b5 : w.heap.size ≤ b5 := Nat.le_trans hsz hzl5
  replace hB := below_ext hB hE5 hsz
  replace hb1 := hb1.ext hE5
  replace hb2 := hb2.ext hE5
  replace hb3 := hb3.ext hE5
  replace hsz := Nat.le_trans hsz hE5.size
  refine l_nil ?_
  refine r_seq ?_
  refine r_region' ?_
  refine l_q (q_makeFunc (v := .func _ ⟨[]⟩ ⟨[_, _, _, _]⟩) rfl rfl) ?_
  refine l_o (o_store (vs := [.func (.func 63) ⟨[]⟩ ⟨[ptr b1 0, ptr b2 0, ptr b3 0, ptr b5 0]⟩]) (cs' := [.func (.func 63) ⟨[]⟩ ⟨[ptr b1 0, ptr b2 0, ptr b3 0, ptr b5 0]⟩]) Try.sizeOf99 rfl rfl rfl rfl hb5 (Nat.le_of_ble_eq_true rfl) rfl rfl ?_)
  intro w6 hz6 hb5 hG6
  replace hB := below_upd hB hG6 hsz (by omega)
  replace hsz : w.heap.size ≤ w6.heap.size := by rw [hz6]; exact hsz
  replace hb1 := hb1.upd hG6 (by omega)
  replace hb2 := hb2.upd hG6 (by omega)
  replace hb3 := hb3.upd hG6 (by omega)
  refine l_nil ?_
  refine r_forget [(2, .pointer _), (4, .pointer _), (5, .pointer _)] ⟨rfl, rfl, rfl, trivial⟩ (fun e7 => ?_)
  refine r_seq ?_
  refine r_draw ext_refl' ext_trans' [0, 1, 2, 3] [2, 3, 1003] 2 (by kernel_rfl) (by kernel_rfl) ?_
  intro w8 _ hE8
  replace hB := below_ext hB hE8 hsz
  replace hb1 := hb1.ext hE8
  replace hb2 := hb2.ext hE8
  replace hb3 := hb3.ext hE8
  replace hb5 := hb5.ext hE8
  replace hsz := Nat.le_trans hsz hE8.size
  refine m_q rfl rfl (fun w' hC' => q_load Try.isAgg99 rfl (((hb5.has (o := 0) rfl).ext hC')) rfl) ?_
  refine m_q rfl rfl (fun w' hC' => q_load_agg (n := 3) Try.isAgg82 Try.sizeOf82 rfl (((hb1.cells' (cs' := [_, _, _]) 0 3 rfl).ext hC')) rfl rfl) ?_
  refine m_o rfl rfl (o_call Try.call66 rfl (begun_ret _ _ c rd er _ (hrow.below hB) hcn hrd) rfl ?_)
  rintro _ w9 ⟨rfl, hE9⟩
  refine ⟨hE9, ?_⟩
  replace hB := below_ext hB hE9 hsz
  replace hb1 := hb1.ext hE9
  replace hb2 := hb2.ext hE9
  replace hb3 := hb3.ext hE9
  replace hb5 := hb5.ext hE9
  replace hsz := Nat.le_trans hsz hE9.size
  have hbl_b1 := hb1.lt
  have hbl_b2 := hb2.lt
  have hbl_b3 := hb3.lt
  have hbl_b5 := hb5.lt
  have hszp : w.heap.size ≤ w9.heap.size := hsz
  refine m_last rfl rfl rfl (o_callv (f := 63) (fst := []) (cap := [_, _, _, _]) rfl Try.call63 rfl (add_ret n ({ w0 := w, a := a, cc := cc, c := c, rd := rd, er := er, d := n, bt := b1, bl := b2, bo := b3, ba := b5, B := w9.heap.size, ta := none, tc := 0, t := [], R := begunL rd, oa := none, oc := 0, L := [] } : AK) _ rfl ⟨hrow, hB, by dsimp only; omega, by dsimp only; omega, by dsimp only; omega, by dsimp only; omega, by dsimp only; omega, Nat.le_refl _, hb1, (by show Blk _ _ [vint (((0 + n : Nat)) : Int)]; rw [Nat.zero_add]; exact hb2), hb5, hb3, World.ownsRow_nil _ _ _ _, World.ownsRow_nil _ _ _ _, by simpa using hcap, hcn, hcl, hrd, bl_len rd 41, begun_b rd, by simpa using hn⟩) rfl ?_)
  rintro _ w10 ⟨oa, oc, L2, hmap, hIc, rfl⟩
  replace hB := hIc.b0
  replace hsz := Nat.le_trans hsz hIc.fr.size
  have hcell := hIc.cell
  have hout := hIc.out
  have hrows := hIc.rows
  simp only [List.nil_append] at hcell hout
  refine m_nil ?_
  refine r_forget [(4, .pointer _)] ⟨rfl, trivial⟩ (fun e11 => ?_)
  refine r_seq ?_
  refine r_region' ?_
  refine l_q (q_load Try.isAgg55 rfl ((hcell.has (o := 0) rfl)) rfl) ?_
  refine l_o (o_store (vs := [.slice oa L2.length oc]) (cs' := [.slice oa L2.length oc]) Try.sizeOf55 rfl rfl rfl rfl hcell (Nat.le_of_ble_eq_true rfl) rfl rfl ?_)
  intro w12 hz12 hcell hG12
  replace hB := below_upd hB hG12 hsz (by omega)
  replace hsz : w.heap.size ≤ w12.heap.size := by rw [hz12]; exact hsz
  replace hout := own_updlt hout hG12 (by omega)
  replace hrows := OwnsI.upd hrows hG12 (by omega)
  refine l_nil ?_
  refine r_forget [(4, .pointer _)] ⟨rfl, trivial⟩ (fun e13 => ?_)
  refine r_ret_ (vs := [.slice _ _ _]) rfl Try.func44 rfl (.nil _) ⟨⟨_, _, rfl, run_loadVar1 Try.isAgg55 (hcell.has (o := 0) rfl)⟩, trivial⟩ ?_
  exact ⟨oa, oc, L2, rfl, own_mono hout hszp, hrows.mono hszp, hmap, Ext.of_below hB⟩
theorem texts2_ret (a : Option Addr) (cc : Nat) (c : List Sg) (rd : Sg) (er le : Int) (w : World) (hrow : Row w a c.length cc 1 (c.map vstr)) (hcn : c.length ≤ 2097152) (hcll : ∀ s ∈ c, s.length ≤ 2097152) (hrd : rd.length ≤ 2097152) : Ret Try.prog 19 [.agg ⟨[.slice a c.length cc]⟩, vstr rd, vint er, vint le] w (fun v w' => ∃ oa oc L2, v = .tuple ⟨[.slice oa L2.length oc, vint (txErr c rd er le)]⟩ ∧ w'.ownsRow w.heap.size 26 1 (.slice oa L2.length oc) L2.length (L2.map SV.enc) ∧ OwnsI w' w.heap.size 3 L2 ∧ L2.map (·.xs) = txL c rd er le ∧ Ext w w') := by
  have hB := Below.refl w.heap.size w
  have hsz : w.heap.size ≤ w.heap.size := Nat.le_refl _
  refine ret_of_runs (args := [_, _, _, _]) Try.func19 rfl (Nat.le_of_ble_eq_true rfl) (by kernel_rfl) ?_
  refine r_seq ?_
  refine r_region' ?_
  refine l_o (o_box rfl rfl rfl ?_)
  intro b1 w1 hzl1 hzr1 _ hb1 hE1
  have hbs_b1 : w.heap.size ≤ b1 := Nat.le_trans hsz hzl1
  replace hB := below_ext hB hE1 hsz
  replace hsz := Nat.le_trans hsz hE1.size
  refine l_q (q_assign (v := .slice _ _ _) rfl rfl) ?_
  refine l_q (q_assign (v := .int _ _) rfl rfl) ?_
  refine l_nil ?_
  refine r_forget [(1, .string _), (2, .int _ _), (3, .int _ _), (4, .pointer _)] ⟨rfl, rfl, rfl, rfl, trivial⟩ (fun e2 => ?_)
  refine r_seq ?_
  refine r_seq ?_
  refine r_region' ?_
  refine l_q (q_load_agg (n := 1) Try.isAgg58 Try.sizeOf58 rfl ((hb1.cells' (cs' := [_]) 0 1 rfl)) rfl rfl) ?_
  refine l_o (o_call Try.call41 rfl (checkCode_ret _ _ c _ (hrow.below hB) hcn hcll) rfl ?_)
  rintro _ w3 ⟨rfl, hE3⟩
  replace hB := below_ext hB hE3 hsz
  replace hb1 := hb1.ext hE3
  replace hsz := Nat.le_trans hsz hE3.size
  refine l_q (q_assign (v := .int _ _) rfl rfl) ?_
  refine l_nil ?_
  refine r_forget [(1, .string _), (2, .int _ _), (3, .int _ _), (4, .pointer _), (10, .int _ _)] ⟨rfl, rfl, rfl, rfl, rfl, trivial⟩ (fun e4 => ?_)
  refine r_seq ?_
  refine r_region' ?_
  refine l_q (q_move (v := .int _ _) rfl rfl) ?_
  refine l_q (q_neq rfl rfl rfl) ?_
  refine l_nil ?_
  refine r_forget [(1, .string _), (2, .int _ _), (3, .int _ _), (4, .pointer _), (10, .int _ _), (18, .bool _)] ⟨rfl, rfl, rfl, rfl, rfl, rfl, trivial⟩ (fun e5 => ?_)
  refine r_cond rfl (fun hc6 => ?_) (fun hc6 => ?_)
  · skip
    try simp only [decide_eq_true_eq, decide_eq_false_iff_not, Bool.not_eq_true', Bool.not_eq_false', Bool.not_not, Bool.not_true, Bool.not_false, Bool.not_eq_true, Bool.not_eq_false, Int.not_lt, Int.not_le, Bool.and_eq_true, Bool.or_eq_true, Bool.and_eq_false_iff, Bool.or_eq_false_iff] at hc6
    have hf := hc6
    refine r_seq ?_
    refine r_region' ?_
    refine l_q (q_move (v := .int _ _) rfl rfl) ?_
    refine l_q (q_assign (v := .slice _ _ _) rfl rfl) ?_
    refine l_q (q_assign (v := .int _ _) rfl rfl) ?_
    refine l_nil ?_
    refine r_forget [(8, .slice _ _ _), (9, .int _ _)] ⟨rfl, rfl, trivial⟩ (fun e7 => ?_)
    refine r_ret_ (vs := [.slice _ _ _, .int _ _]) rfl Try.func19 rfl (.nil _) ⟨rfl, rfl, trivial⟩ ?_
    exact ⟨none, 0, [], congrArg (fun z => Value.tuple ⟨[.slice none 0 0, vint z]⟩) (tx_err1 hf).symm, World.ownsRow_nil _ _ _ _, OwnsI.nil _ _ _, (txL_bad (by rw [tx_err1 hf]; exact hf)).symm, Ext.of_below hB⟩
  · skip
    try simp only [decide_eq_true_eq, decide_eq_false_iff_not, Bool.not_eq_true', Bool.not_eq_false', Bool.not_not, Bool.not_true, Bool.not_false, Bool.not_eq_true, Bool.not_eq_false, Int.not_lt, Int.not_le, Bool.and_eq_true, Bool.or_eq_true, Bool.and_eq_false_iff, Bool.or_eq_false_iff] at hc6
    have hf := hc6
    have hc6 := (fault_zero hf).1
    have hcl := code_short hf
    refine r_skip ?_
    refine r_seq ?_
    refine r_seq ?_
    refine r_region' ?_
    refine l_q (q_move (v := .string _) rfl rfl) ?_
    refine l_o (o_buildSlice (el := 9) (cs := [vstr rd]) Try.underlying22 el9 (by decide) (by kernel_rfl) rfl (by decide) rfl ?_)
    intro b8 w8 hzl8 hzr8 _ hb8 hE8 ho8
    have hne_b1_b8 : b1 ≠ b8 := by have := hb1.lt; omega
    have hbs_b8 : w.heap.size ≤ b8 := Nat.le_trans hsz hzl8
    replace hB := below_ext hB hE8 hsz
    replace hb1 := hb1.ext hE8
    replace hsz := Nat.le_trans hsz hE8.size
    refine l_o (o_call Try.call42 rfl (checkSigns_ret _ _ [rd] _ (Row.of_owns ho8) (by simp) (by simp; exact hrd)) rfl ?_)
    rintro _ w9 ⟨rfl, hE9⟩
    replace hB := below_ext hB hE9 hsz
    replace hb1 := hb1.ext hE9
    replace ho8 := own_ext ho8 hE9
    replace hsz := Nat.le_trans hsz hE9.size
    refine l_q (q_assign (v := .int _ _) rfl rfl) ?_
    refine l_nil ?_
    refine r_forget [(1, .string _), (2, .int _ _), (3, .int _ _), (4, .pointer _), (11, .int _ _)] ⟨rfl, rfl, rfl, rfl, rfl, trivial⟩ (fun e10 => ?_)
    refine r_seq ?_
    refine r_region' ?_
    refine l_q (q_move (v := .int _ _) rfl rfl) ?_
    refine l_q (q_neq rfl rfl rfl) ?_
    refine l_nil ?_
    refine r_forget [(1, .string _), (2, .int _ _), (3, .int _ _), (4, .pointer _), (11, .int _ _), (24, .bool _)] ⟨rfl, rfl, rfl, rfl, rfl, rfl, trivial⟩ (fun e11 => ?_)
    refine r_cond rfl (fun hc12 => ?_) (fun hc12 => ?_)
    · skip
      try simp only [decide_eq_true_eq, decide_eq_false_iff_not, Bool.not_eq_true', Bool.not_eq_false', Bool.not_not, Bool.not_true, Bool.not_false, Bool.not_eq_true, Bool.not_eq_false, Int.not_lt, Int.not_le, Bool.and_eq_true, Bool.or_eq_true, Bool.and_eq_false_iff, Bool.or_eq_false_iff] at hc12
      have hk := hc12
      refine r_seq ?_
      refine r_region' ?_
      refine l_q (q_move (v := .int _ _) rfl rfl) ?_
      refine l_q (q_assign (v := .slice _ _ _) rfl rfl) ?_
      refine l_q (q_assign (v := .int _ _) rfl rfl) ?_
      refine l_nil ?_
      refine r_forget [(8, .slice _ _ _), (9, .int _ _)] ⟨rfl, rfl, trivial⟩ (fun e13 => ?_)
      refine r_ret_ (vs := [.slice _ _ _, .int _ _]) rfl Try.func19 rfl (.nil _) ⟨rfl, rfl, trivial⟩ ?_
      exact ⟨none, 0, [], congrArg (fun z => Value.tuple ⟨[.slice none 0 0, vint z]⟩) (tx_err2 hf hk).symm, World.ownsRow_nil _ _ _ _, OwnsI.nil _ _ _, (txL_bad (by rw [tx_err2 hf hk]; exact hk)).symm, Ext.of_below hB⟩
    · skip
      try simp only [decide_eq_true_eq, decide_eq_false_iff_not, Bool.not_eq_true', Bool.not_eq_false', Bool.not_not, Bool.not_true, Bool.not_false, Bool.not_eq_true, Bool.not_eq_false, Int.not_lt, Int.not_le, Bool.and_eq_true, Bool.or_eq_true, Bool.and_eq_false_iff, Bool.or_eq_false_iff] at hc12
      have hk := hc12
      have hrl : rd.length ≤ 40 := chk_one hk
      refine r_skip ?_
      refine r_seq ?_
      refine r_seq ?_
      refine r_region' ?_
      refine l_q (q_move (v := .int _ _) rfl rfl) ?_
      refine l_o (o_call Try.call43 rfl (within_ret _ _ _ _) rfl ?_)
      rintro _ w14 ⟨rfl, rfl⟩
      refine l_q (q_not rfl rfl) ?_
      refine l_q (q_move (v := .bool _) rfl rfl) ?_
      refine l_part 29 rfl (fun hc15 => ?_) (fun hc15 => ?_)
      · skip
        try simp only [decide_eq_true_eq, decide_eq_false_iff_not, Bool.not_eq_true', Bool.not_eq_false', Bool.not_not, Bool.not_true, Bool.not_false, Bool.not_eq_true, Bool.not_eq_false, Int.not_lt, Int.not_le, Bool.and_eq_true, Bool.or_eq_true, Bool.and_eq_false_iff, Bool.or_eq_false_iff] at hc15
        refine l_q (q_skip rfl) ?_
        refine l_q (q_skip rfl) ?_
        refine l_q (q_skip rfl) ?_
        refine l_q (q_pick_t (v := .bool _) rfl rfl rfl) ?_
        refine l_nil ?_
        refine r_forget [(1, .string _), (2, .int _ _), (3, .int _ _), (4, .pointer _), (33, .bool _)] ⟨rfl, rfl, rfl, rfl, rfl, trivial⟩ (fun e16 => ?_)
        refine r_cond_t rfl ?_
        refine r_seq ?_
        refine r_region' ?_
        refine l_q (q_assign (v := .slice _ _ _) rfl rfl) ?_
        refine l_q (q_assign (v := .int _ _) rfl rfl) ?_
        refine l_nil ?_
        refine r_forget [(8, .slice _ _ _), (9, .int _ _)] ⟨rfl, rfl, trivial⟩ (fun e17 => ?_)
        refine r_ret_ (vs := [.slice _ _ _, .int _ _]) rfl Try.func19 rfl (.nil _) ⟨rfl, rfl, trivial⟩ ?_
        exact ⟨none, 0, [], congrArg (fun z => Value.tuple ⟨[.slice none 0 0, vint z]⟩) (tx_err3 hf hk (by omega)).symm, World.ownsRow_nil _ _ _ _, OwnsI.nil _ _ _, (txL_bad (by rw [tx_err3 hf hk (by omega)]; decide)).symm, Ext.of_below hB⟩
      · skip
        try simp only [decide_eq_true_eq, decide_eq_false_iff_not, Bool.not_eq_true', Bool.not_eq_false', Bool.not_not, Bool.not_true, Bool.not_false, Bool.not_eq_true, Bool.not_eq_false, Int.not_lt, Int.not_le, Bool.and_eq_true, Bool.or_eq_true, Bool.and_eq_false_iff, Bool.or_eq_false_iff] at hc15
        refine l_q (q_move (v := .int _ _) rfl rfl) ?_
        refine l_o (o_call Try.call43 rfl (within_ret _ _ _ _) rfl ?_)
        rintro _ w18 ⟨rfl, rfl⟩
        refine l_q (q_not rfl rfl) ?_
        refine l_q (q_pick_f (v := .bool _) rfl rfl rfl) ?_
        refine l_nil ?_
        refine r_forget [(1, .string _), (2, .int _ _), (3, .int _ _), (4, .pointer _), (33, .bool _)] ⟨rfl, rfl, rfl, rfl, rfl, trivial⟩ (fun e19 => ?_)
        refine r_cond rfl (fun hc20 => ?_) (fun hc20 => ?_)
        · skip
          try simp only [decide_eq_true_eq, decide_eq_false_iff_not, Bool.not_eq_true', Bool.not_eq_false', Bool.not_not, Bool.not_true, Bool.not_false, Bool.not_eq_true, Bool.not_eq_false, Int.not_lt, Int.not_le, Bool.and_eq_true, Bool.or_eq_true, Bool.and_eq_false_iff, Bool.or_eq_false_iff] at hc20
          refine r_seq ?_
          refine r_region' ?_
          refine l_q (q_assign (v := .slice _ _ _) rfl rfl) ?_
          refine l_q (q_assign (v := .int _ _) rfl rfl) ?_
          refine l_nil ?_
          refine r_forget [(8, .slice _ _ _), (9, .int _ _)] ⟨rfl, rfl, trivial⟩ (fun e21 => ?_)
          refine r_ret_ (vs := [.slice _ _ _, .int _ _]) rfl Try.func19 rfl (.nil _) ⟨rfl, rfl, trivial⟩ ?_
          exact ⟨none, 0, [], congrArg (fun z => Value.tuple ⟨[.slice none 0 0, vint z]⟩) (tx_err3 hf hk (by omega)).symm, World.ownsRow_nil _ _ _ _, OwnsI.nil _ _ _, (txL_bad (by rw [tx_err3 hf hk (by omega)]; decide)).symm, Ext.of_below hB⟩
        · skip
          try simp only [decide_eq_true_eq, decide_eq_false_iff_not, Bool.not_eq_true', Bool.not_eq_false', Bool.not_not, Bool.not_true, Bool.not_false, Bool.not_eq_true, Bool.not_eq_false, Int.not_lt, Int.not_le, Bool.and_eq_true, Bool.or_eq_true, Bool.and_eq_false_iff, Bool.or_eq_false_iff] at hc20
          refine r_skip ?_
          refine r_seq ?_
          refine r_region' ?_
          refine l_q (q_load_agg (n := 1) Try.isAgg58 Try.sizeOf58 rfl ((hb1.cells' (cs' := [_]) 0 1 rfl)) rfl rfl) ?_
          refine l_q (q_move (v := .string _) rfl rfl) ?_
          refine l_q (q_move (v := .int _ _) rfl rfl) ?_
          refine l_q (q_build (v := .agg ⟨[.slice a c.length cc, vstr rd, vint er]⟩) (fun w => by kernel_rfl) rfl) ?_
          refine l_o (o_alloc Try.zeroValue82 rfl rfl ?_)
          intro b22 w22 hzl22 hzr22 _ hb22 hE22
          have hne_b1_b22 : b1 ≠ b22 := by have := hb1.lt; omega
          have hbs_b22 : w.heap.size ≤ b22 := Nat.le_trans hsz hzl22
          replace hB := below_ext hB hE22 hsz
          replace hb1 := hb1.ext hE22
          replace ho8 := own_ext ho8 hE22
          replace hsz := Nat.le_trans hsz hE22.size
          refine l_o (o_store (vs := [.slice a c.length cc, vstr rd, vint er]) (cs' := [.slice a c.length cc, vstr rd, vint er]) Try.sizeOf82 rfl rfl rfl rfl hb22 (Nat.le_of_ble_eq_true rfl) rfl rfl ?_)
          intro w23 hz23 hb22 hG23
          replace hB := below_upd hB hG23 hsz (by omega)
          replace hsz : w.heap.size ≤ w23.heap.size := by rw [hz23]; exact hsz
          replace hb1 := hb1.upd hG23 (by omega)
          refine l_nil ?_
          refine r_forget [(3, .int _ _), (12, .pointer _)] ⟨rfl, rfl, trivial⟩ (fun e24 => ?_)
          refine r_seq ?_
          refine r_region' ?_
          refine l_q (q_assign (v := .slice _ _ _) rfl rfl) ?_
          refine l_nil ?_
          refine r_seq ?_
          refine r_seq ?_
          refine r_region' ?_
          refine l_q (q_move (v := .int _ _) rfl rfl) ?_
          refine l_q (q_add rfl rfl (by omega) rfl) ?_
          refine l_q (q_move (v := .int _ _) rfl rfl) ?_
          refine l_nil ?_
          refine r_forget [(12, .pointer _), (13, .slice _ _ _), (39, .int _ _), (40, .int _ _)] ⟨rfl, rfl, rfl, rfl, trivial⟩ (fun e25 => ?_)
          refine r_block ?_
          refine r_rounds (α := Nat × (Option Addr) × Nat × (List SV)) (fun ⟨m, oa, oc, L⟩ e wl => Knows e [(12, ptr b22 0), (13, .slice oa ((L).length) oc), (39, vint (le + 1)), (40, vint (m : Int))] ∧ ((m : Int) ≤ le + 1) ∧ (L.map (·.xs) = (List.range m).flatMap (fun (m : Nat) => addL c rd er m [] (begunL rd))) ∧ (L.length ≤ m * 7776) ∧ (wl.ownsRow (b22 + 1) 26 1 (.slice oa ((L).length) oc) ((L).length) ((L).map SV.enc)) ∧ (OwnsI wl w.heap.size 3 L) ∧ (Blk wl b22 [.slice a c.length cc, vstr rd, vint er]) ∧ (w.heap.size ≤ wl.heap.size) ∧ (Below w.heap.size w wl)) (fun ⟨m, oa, oc, L⟩ => (le + 1).toNat - m) (0, none, 0, []) ?_ ?_
          · skip
            exact ⟨⟨rfl, rfl, rfl, rfl, trivial⟩, (by omega), rfl, (by simp), (World.ownsRow_nil _ _ _ _), (OwnsI.nil _ _ _), hb22, hsz, hB⟩
          · skip
            rintro ⟨m, oa, oc, L⟩ el26 wl26 ⟨hkn, hm6, hL, hLb, ho, hos, hb22, hsz, hB⟩ ih26
            obtain ⟨e26, rfl⟩ := knows_env hkn
            refine r_seq ?_
            refine r_region' ?_
            refine l_q (q_lss rfl rfl rfl) ?_
            refine l_nil ?_
            refine r_seq ?_
            refine r_cond rfl (fun hc27 => ?_) (fun hc27 => ?_)
            · skip
              try simp only [decide_eq_true_eq, decide_eq_false_iff_not, Bool.not_eq_true', Bool.not_eq_false', Bool.not_not, Bool.not_true, Bool.not_false, Bool.not_eq_true, Bool.not_eq_false, Int.not_lt, Int.not_le, Bool.and_eq_true, Bool.or_eq_true, Bool.and_eq_false_iff, Bool.or_eq_false_iff] at hc27
              have hm5 : m ≤ 5 := by omega
              refine r_skip ?_
              refine r_seq ?_
              refine r_block ?_
              refine r_seq ?_
              refine r_region' ?_
              refine l_q (q_move (v := .int _ _) rfl rfl) ?_
              refine l_q (q_assign (v := .int _ _) rfl rfl) ?_
              refine l_nil ?_
              refine r_forget [(12, .pointer _), (13, .slice _ _ _), (14, .int _ _), (39, .int _ _), (40, .int _ _)] ⟨rfl, rfl, rfl, rfl, rfl, trivial⟩ (fun e28 => ?_)
              refine r_region' ?_
              refine l_q (q_move (v := .slice _ _ _) rfl rfl) ?_
              refine l_q (q_load_agg (n := 3) Try.isAgg82 Try.sizeOf82 rfl ((hb22.cells' (cs' := [_, _, _]) 0 3 rfl)) rfl rfl) ?_
              refine l_q (q_move (v := .int _ _) rfl rfl) ?_
              refine l_o (o_call Try.call44 rfl (texts_ret _ _ c rd er m _ (hrow.below hB) hcn hrl hcl (capN_small hc6 hm5) (by omega)) rfl ?_)
              have hszp29 : w.heap.size ≤ wl26.heap.size := hsz
              have hbl_b22 := hb22.lt
              rintro _ w29 ⟨oa29, oc29, L29, rfl, ho29, hos29, hm29, hE29⟩
              replace ho29 := own_mono ho29 (show b22 + 1 ≤ _ by omega)
              replace hB := below_ext hB hE29 hsz
              replace hb22 := hb22.ext hE29
              replace ho := own_ext ho hE29
              replace hos := hos.ext hE29
              replace hsz := Nat.le_trans hsz hE29.size
              replace hos29 := hos29.mono hszp29
              have hl29 := addL_small hc6 hm5 hm29
              have hbl_b22 := hb22.lt
              refine l_o (o_append_map (f := SV.enc) (L) (L29) Try.underlying55 el26 rfl rfl ho rfl (Row.of_owns ho29) (fun _ => rfl) (by (try simp only [List.length_append, List.length_cons, List.length_nil, List.length_take, List.length_drop, List.length_replicate]); omega) (by omega) rfl ?_)
              intro a30 c30 w30 hz30 ho30 hG30
              replace hB := below_own hB hG30 ho (by omega) hsz
              replace hsz := Nat.le_trans hsz hG30.size
              replace hb22 := hb22.step hG30 (own_ne ho (by omega))
              replace hos := hos.kept ho (by decide) hG30
              replace hos29 := hos29.kept ho (by decide) hG30
              refine l_q (q_assign (v := .slice _ _ _) rfl rfl) ?_
              refine l_nil ?_
              refine r_forget [(12, .pointer _), (13, .slice _ _ _), (39, .int _ _), (40, .int _ _)] ⟨rfl, rfl, rfl, rfl, trivial⟩ (fun e31 => ?_)
              refine r_inBlock ?_
              refine r_region' ?_
              refine l_q (q_add rfl rfl (by omega) rfl) ?_
              refine l_q (q_move (v := .int _ _) rfl rfl) ?_
              refine l_nil ?_
              refine r_forget [(12, .pointer _), (13, .slice _ _ _), (39, .int _ _), (40, .int _ _)] ⟨rfl, rfl, rfl, rfl, trivial⟩ (fun e32 => ?_)
              have hLn := flat_snoc (f := (fun (m : Nat) => addL c rd er m [] (begunL rd))) hL hm29
              exact ih26 (m + 1, a30, c30, L ++ L29) _ _ ⟨⟨rfl, by first | rfl | exact vint_eq (by omega), rfl, by first | rfl | exact vint_eq (by omega), trivial⟩, (by omega), hLn, (by rw [List.length_append, Nat.succ_mul]; exact Nat.add_le_add hLb (by assumption)), ho30, (OwnsI.append hos hos29), hb22, hsz, hB⟩ (by first | omega | (dsimp only; omega))
            · skip
              try simp only [decide_eq_true_eq, decide_eq_false_iff_not, Bool.not_eq_true', Bool.not_eq_false', Bool.not_not, Bool.not_true, Bool.not_false, Bool.not_eq_true, Bool.not_eq_false, Int.not_lt, Int.not_le, Bool.and_eq_true, Bool.or_eq_true, Bool.and_eq_false_iff, Bool.or_eq_false_iff] at hc27
              refine r_exit rfl ?_
              refine r_seq ?_
              refine r_region' ?_
              refine l_q (q_move (v := .slice _ _ _) rfl rfl) ?_
              refine l_q (q_assign (v := .slice _ _ _) rfl rfl) ?_
              refine l_q (q_assign (v := .int _ _) rfl rfl) ?_
              refine l_nil ?_
              refine r_forget [(8, .slice _ _ _), (9, .int _ _)] ⟨rfl, rfl, trivial⟩ (fun e33 => ?_)
              refine r_ret_ (vs := [.slice _ _ _, .int _ _]) rfl Try.func19 rfl (.nil _) ⟨rfl, rfl, trivial⟩ ?_
              have hml : m = le.toNat + 1 := by omega
              exact ⟨oa, oc, L, congrArg (fun z => Value.tuple ⟨[.slice oa L.length oc, vint z]⟩) (tx_ok hf hk (by omega)).symm, own_mono ho (by omega), hos, (by rw [hL, hml, txL, if_pos (tx_ok hf hk (by omega))]), Ext.of_below hB⟩
end Go.Proofs.Ytfbjllabgkabkaa
