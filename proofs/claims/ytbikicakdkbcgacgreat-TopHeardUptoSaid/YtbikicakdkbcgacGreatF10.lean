/- Contracts. -/
import Derived.Test.YtbikicakdkbcgacGreatF9
import Derived.Test.YtbikicakdkbcgacGreatGvB
set_option linter.unusedVariables false
set_option linter.unusedSimpArgs false
namespace Go.Proofs.YtbikicakdkbcgacGreat
open Go Go.RowKit Go.Gv Go.Fl

def ofK (k : Int) (s : Sg) : Sg × Sg :=
  if k = 0 then (s.take 1, s.take 1)
  else if k = 1 then (if s.getD 0 0 = 32 then ([], [33]) else (s.take 1, []))
  else if k = 2 then (if s.getD 0 0 = 45 then (s.take 1, [46, 46]) else ([], [33]))
  else if k = 3 then (if hasPfx s [46, 46] = true then (s.take 2, [45]) else ([], [33]))
  else if k = 4 then (if s.getD 0 0 = 32 then (s.take 1, []) else ([], [33]))
  else ([], [32])
theorem pfx_len {s p : Sg} (h : hasPfx s p = true) : p.length ≤ s.length := by
  unfold hasPfx at h
  have := congrArg List.length (of_decide_eq_true h)
  rw [List.length_take] at this; omega
theorem ofK_len {k : Nat} {s : Sg} (_hk : k < 6) (_h : k = 5 ∨ 1 ≤ s.length) : (ofK (k : Int) s).1.length ≤ s.length := by
  unfold ofK
  repeat' split
  all_goals simp only [List.length_take, List.length_nil]
  all_goals omega
theorem pfx33 {r : Sg} (h : ∀ x ∈ r, x ≠ 33) : hasPfx r [33] = false := by
  cases r with
  | nil => rfl
  | cons x l =>
    have := h x (by simp)
    unfold hasPfx; rw [decide_eq_false_iff_not]; intro he
    simp at he; exact this he
/-- a step of the program's is the document's -/
theorem ofK_tw' {k : Int} {s : Sg} (hk : 0 ≤ k ∧ k < 6) (h : k = 5 ∨ 1 ≤ s.length) : (stepTW k s = none ∧ (ofK k s).2 = [33]) ∨ stepTW k s = some ((ofK k s).1.length, (ofK k s).2) := by
  have ht : 1 ≤ s.length → (s.take 1).length = 1 := fun h => by rw [List.length_take]; omega
  have hn : 1 ≤ s.length → s ≠ [] := fun h h0 => by subst h0; simp at h
  rcases (show k = 0 ∨ k = 1 ∨ k = 2 ∨ k = 3 ∨ k = 4 ∨ k = 5 by omega) with rfl | rfl | rfl | rfl | rfl | rfl
  · have h := h.resolve_left (by decide)
    right
    show (if s = [] then none else some (1, s.take 1)) = some ((s.take 1).length, s.take 1)
    rw [if_neg (hn h), ht h]
  · have h := h.resolve_left (by decide)
    have e1 : stepTW 1 s = if s = [] ∨ s.getD 0 0 = 32 then none else some (1, []) := rfl
    have e2 : ofK 1 s = if s.getD 0 0 = 32 then ([], [33]) else (s.take 1, []) := rfl
    rw [e1, e2]
    by_cases hb : s.getD 0 0 = 32
    · left; rw [if_pos (.inr hb), if_pos hb]; exact ⟨rfl, rfl⟩
    · right; rw [if_neg (fun hx => hx.elim (hn h) hb), if_neg hb, ht h]
  · have h := h.resolve_left (by decide)
    have e1 : stepTW 2 s = if s = [] ∨ s.getD 0 0 ≠ 45 then none else some (1, [46, 46]) := rfl
    have e2 : ofK 2 s = if s.getD 0 0 = 45 then (s.take 1, [46, 46]) else ([], [33]) := rfl
    rw [e1, e2]
    by_cases hb : s.getD 0 0 = 45
    · right; rw [if_neg (fun hx => hx.elim (hn h) (fun hx => hx hb)), if_pos hb, ht h]
    · left; rw [if_pos (.inr hb), if_neg hb]; exact ⟨rfl, rfl⟩
  · have h := h.resolve_left (by decide)
    have e1 : stepTW 3 s = if s.length < 2 ∨ s.take 2 ≠ [46, 46] then none else some (2, [45]) := rfl
    have e2 : ofK 3 s = if hasPfx s [46, 46] = true then (s.take 2, [45]) else ([], [33]) := rfl
    rw [e1, e2]
    by_cases hb : hasPfx s [46, 46] = true
    · right
      have hl : 2 ≤ s.length := pfx_len hb
      have h2 : s.take 2 = [46, 46] := of_decide_eq_true hb
      rw [if_neg (fun hx => hx.elim (fun hx => by omega) (fun hx => hx h2)), if_pos hb, List.length_take, Nat.min_eq_left hl]
    · left
      rw [if_pos (.inr (fun h2 => hb (decide_eq_true h2))), if_neg hb]; exact ⟨rfl, rfl⟩
  · have h := h.resolve_left (by decide)
    have e1 : stepTW 4 s = if s = [] ∨ s.getD 0 0 ≠ 32 then none else some (1, []) := rfl
    have e2 : ofK 4 s = if s.getD 0 0 = 32 then (s.take 1, []) else ([], [33]) := rfl
    rw [e1, e2]
    by_cases hb : s.getD 0 0 = 32
    · right; rw [if_neg (fun hx => hx.elim (hn h) (fun hx => hx hb)), if_pos hb, ht h]
    · left; rw [if_pos (.inr hb), if_neg hb]; exact ⟨rfl, rfl⟩
  · right; rfl
theorem ofK_tw {k : Nat} {s : Sg} (hk : k < 6) (h : k = 5 ∨ 1 ≤ s.length) : (stepTW (k : Int) s = none ∧ (ofK (k : Int) s).2 = [33]) ∨ stepTW (k : Int) s = some ((ofK (k : Int) s).1.length, (ofK (k : Int) s).2) :=
  ofK_tw' (by omega) (h.imp (fun h => by omega) id)
theorem ofK_step {k : Nat} {s r : Sg} (hk : k < 6) (h : k = 5 ∨ 1 ≤ s.length) (hr : ∀ x ∈ r, x ≠ 33) (hp : hasPfx r (ofK (k : Int) s).2 = true) : stepR (k : Int) s r = (s.drop (ofK (k : Int) s).1.length, r.drop (ofK (k : Int) s).2.length, true) := by
  rcases ofK_tw hk h with ⟨_, h1⟩ | h1
  · rw [h1, pfx33 hr] at hp; cases hp
  · exact stepR_yes h1 hp
theorem ofK_no {k : Nat} {s r : Sg} (hk : k < 6) (h : k = 5 ∨ 1 ≤ s.length) (hr : ∀ x ∈ r, x ≠ 33) (hp : hasPfx r (ofK (k : Int) s).2 = false) : (stepR (k : Int) s r).2.2 = false := by
  rcases ofK_tw hk h with ⟨h1, _⟩ | h1
  · rw [stepR_none h1]
  · rw [stepR_no h1 hp]
theorem step_empty {k : Nat} {s r : Sg} (h : s = []) (hk : k < 5) : (stepR (k : Int) s r).2.2 = false := by
  subst h
  have : stepTW (k : Int) [] = none := by
    rcases (show k = 0 ∨ k = 1 ∨ k = 2 ∨ k = 3 ∨ k = 4 by omega) with rfl | rfl | rfl | rfl | rfl <;> simp [stepTW]
  rw [stepR_none this]

theorem fld178_0 (w : World) (b o : Nat) : (Instr.fieldAt 178 (ptr b o) 0).run Tryz.prog w = .ok (ptr b (o + 0)) w := by
  simp [Instr.fieldAt, run_underlying Tryz.underlying178, fieldPlace, Instr.sureAddr, Tryz.sizeOf9, Addr.add_lit]
theorem el214 : Elem Tryz.prog 214 (.agg ⟨[vint 0, vint 0, .nilFunc]⟩) 3 24 := elem_of (by kernel_rfl) rfl (by decide)
theorem fld214_0 (w : World) (b o : Nat) : (Instr.fieldAt 214 (ptr b o) 0).run Tryz.prog w = .ok (ptr b (o + 0)) w := by
  simp [Instr.fieldAt, run_underlying Tryz.underlying214, fieldPlace, Instr.sureAddr, Tryz.sizeOf3, Addr.add_lit]
theorem fld214_2 (w : World) (b o : Nat) : (Instr.fieldAt 214 (ptr b o) 2).run Tryz.prog w = .ok (ptr b (o + 2)) w := by
  simp [Instr.fieldAt, run_underlying Tryz.underlying214, fieldPlace, Instr.sureAddr, Tryz.sizeOf212, Addr.add_lit]
theorem fld178_1 (w : World) (b o : Nat) : (Instr.fieldAt 178 (ptr b o) 1).run Tryz.prog w = .ok (ptr b (o + 1)) w := by
  simp [Instr.fieldAt, run_underlying Tryz.underlying178, fieldPlace, Instr.sureAddr, Tryz.sizeOf9, Addr.add_lit]
theorem never_ret (w : World) : Ret Tryz.prog 183 [] w (fun v w' => v = .tuple ⟨[vstr [], vstr [33]]⟩ ∧ w = w') := by
 have hB := Below.refl w.heap.size w
 have hsz : w.heap.size ≤ w.heap.size := Nat.le_refl _
 refine ret_of_runs (args := []) Tryz.func183 rfl (Nat.le_of_ble_eq_true rfl) (by kernel_rfl) (r_seq (r_region' (l_q (q_assign (v := .string _) rfl rfl) (l_q (q_assign (v := .string _) rfl rfl) (l_nil (r_seq (r_region' (l_q (q_assign (v := .string _) rfl rfl) (l_q (q_assign (v := .string _) rfl rfl) (l_nil (r_ret_ (vs := [.string _, .string _]) rfl Tryz.func183 rfl (.nil _) ⟨rfl, rfl, trivial⟩ ?_)))))))))))
 exact ⟨rfl, rfl⟩
theorem k0_ret (s r : Sg) (w : World) (hs : s.length ≤ 2097152) (hs0 : 1 ≤ s.length) : Ret Tryz.prog 174 [.agg ⟨[vstr s, vstr r]⟩] w (fun v w' => v = .tuple ⟨[vstr ((ofK (0 : Int) s).1), vstr ((ofK (0 : Int) s).2)]⟩ ∧ Ext w w') := by
 have hB := Below.refl w.heap.size w
 have hsz : w.heap.size ≤ w.heap.size := Nat.le_refl _
 refine ret_of_runs (args := [_]) Tryz.func174 rfl (Nat.le_of_ble_eq_true rfl) (by kernel_rfl) (r_seq (r_region' (l_o (o_box rfl rfl rfl ?_))))
 intro b1 w1 hzl1 hzr1 _ hb1 hE1
 have hbs_b1 : w.heap.size ≤ b1 := Nat.le_trans hsz hzl1
 replace hB := below_ext hB hE1 hsz
 replace hsz := Nat.le_trans hsz hE1.size
 refine l_q (q_assign (v := .string _) rfl rfl) (l_q (q_assign (v := .string _) rfl rfl) (l_nil (r_seq (r_draw ext_refl' ext_trans' [0, 1, 2, 3, 4, 5, 6, 7] [] 2 (by kernel_rfl) (by kernel_rfl) ?_))))
 intro w2 _ hE2
 replace hB := below_ext hB hE2 hsz
 replace hb1 := hb1.ext hE2
 replace hsz := Nat.le_trans hsz hE2.size
 refine m_q rfl rfl (fun w' hC' => q_fieldAddr (o' := 0) rfl fld178_0 rfl) (m_q rfl rfl (fun w' hC' => q_load Tryz.isAgg9 rfl (((hb1.has (o := 0) rfl).ext hC')) rfl) (m_q rfl rfl (fun w' hC' => q_slice_str_hi Tryz.underlying9 rfl rfl (by omega) rfl) (m_q rfl rfl (fun w' hC' => q_fieldAddr (o' := 0) rfl fld178_0 rfl) (m_q rfl rfl (fun w' hC' => q_load Tryz.isAgg9 rfl (((hb1.has (o := 0) rfl).ext hC')) rfl) (m_q rfl rfl (fun w' hC' => q_slice_str_hi Tryz.underlying9 rfl rfl (by omega) rfl) (m_q rfl rfl (fun w' hC' => q_assign (v := .string _) rfl rfl) (m_q rfl rfl (fun w' hC' => q_assign (v := .string _) rfl rfl) (m_nil (r_ret_ (vs := [.string _, .string _]) rfl Tryz.func174 rfl (.nil _) ⟨rfl, rfl, trivial⟩ ?_)))))))))
 exact ⟨rfl, Ext.of_below hB⟩
theorem k1_ret (s r : Sg) (w : World) (hs : s.length ≤ 2097152) (hs0 : 1 ≤ s.length) : Ret Tryz.prog 175 [.agg ⟨[vstr s, vstr r]⟩] w (fun v w' => v = .tuple ⟨[vstr ((ofK (1 : Int) s).1), vstr ((ofK (1 : Int) s).2)]⟩ ∧ Ext w w') := by
 have hB := Below.refl w.heap.size w
 have hsz : w.heap.size ≤ w.heap.size := Nat.le_refl _
 refine ret_of_runs (args := [_]) Tryz.func175 rfl (Nat.le_of_ble_eq_true rfl) (by kernel_rfl) (r_seq (r_region' (l_o (o_box rfl rfl rfl ?_))))
 intro b1 w1 hzl1 hzr1 _ hb1 hE1
 have hbs_b1 : w.heap.size ≤ b1 := Nat.le_trans hsz hzl1
 replace hB := below_ext hB hE1 hsz
 replace hsz := Nat.le_trans hsz hE1.size
 refine l_q (q_assign (v := .string _) rfl rfl) (l_q (q_assign (v := .string _) rfl rfl) (l_nil (r_seq (r_seq (r_region' (l_q (q_fieldAddr (o' := 0) rfl fld178_0 rfl) (l_q (q_load Tryz.isAgg9 rfl ((hb1.has (o := 0) rfl)) rfl) (l_q (q_index_str (c := (s).getD 0 0) Tryz.underlying9 rfl rfl (by omega) (getD_some (by omega)) rfl) (l_q (q_eql rfl rfl rfl) (l_nil (r_cond rfl (fun hc2 => ?_) (fun hc2 => ?_))))))))))))
 ·
  replace hc2 := dt hc2
  have hb := u8_eq (n := 32) hc2
  refine r_seq (r_region' (l_o (o_call Tryz.call183 rfl (never_ret _) rfl ?_)))
  rintro _ w3 ⟨rfl, rfl⟩
  refine l_q (q_extract (vs := [_, _]) (v := .string _) rfl rfl rfl) (l_q (q_extract (vs := [_, _]) (v := .string _) rfl rfl rfl) (l_q (q_assign (v := .string _) rfl rfl) (l_q (q_assign (v := .string _) rfl rfl) (l_nil (r_ret_ (vs := [.string _, .string _]) rfl Tryz.func175 rfl (.nil _) ⟨rfl, rfl, trivial⟩ ?_)))))
  exact ⟨tup2 (vstr_eq (by unfold ofK; simp_all)) (vstr_eq (by unfold ofK; simp_all)), Ext.of_below hB⟩
 ·
  replace hc2 := df hc2
  have hb := u8_ne (n := 32) hc2
  refine r_skip (r_seq (r_region' (l_q (q_fieldAddr (o' := 0) rfl fld178_0 rfl) (l_q (q_load Tryz.isAgg9 rfl ((hb1.has (o := 0) rfl)) rfl) (l_q (q_slice_str_hi Tryz.underlying9 rfl rfl (by omega) rfl) (l_q (q_assign (v := .string _) rfl rfl) (l_q (q_assign (v := .string _) rfl rfl) (l_nil (r_ret_ (vs := [.string _, .string _]) rfl Tryz.func175 rfl (.nil _) ⟨rfl, rfl, trivial⟩ ?_)))))))))
  exact ⟨tup2 (vstr_eq (by unfold ofK; simp_all)) (vstr_eq (by unfold ofK; simp_all)), Ext.of_below hB⟩
theorem k2_ret (s r : Sg) (w : World) (hs : s.length ≤ 2097152) (hs0 : 1 ≤ s.length) : Ret Tryz.prog 176 [.agg ⟨[vstr s, vstr r]⟩] w (fun v w' => v = .tuple ⟨[vstr ((ofK (2 : Int) s).1), vstr ((ofK (2 : Int) s).2)]⟩ ∧ Ext w w') := by
 have hB := Below.refl w.heap.size w
 have hsz : w.heap.size ≤ w.heap.size := Nat.le_refl _
 refine ret_of_runs (args := [_]) Tryz.func176 rfl (Nat.le_of_ble_eq_true rfl) (by kernel_rfl) (r_seq (r_region' (l_o (o_box rfl rfl rfl ?_))))
 intro b1 w1 hzl1 hzr1 _ hb1 hE1
 have hbs_b1 : w.heap.size ≤ b1 := Nat.le_trans hsz hzl1
 replace hB := below_ext hB hE1 hsz
 replace hsz := Nat.le_trans hsz hE1.size
 refine l_q (q_assign (v := .string _) rfl rfl) (l_q (q_assign (v := .string _) rfl rfl) (l_nil (r_seq (r_seq (r_region' (l_q (q_fieldAddr (o' := 0) rfl fld178_0 rfl) (l_q (q_load Tryz.isAgg9 rfl ((hb1.has (o := 0) rfl)) rfl) (l_q (q_index_str (c := (s).getD 0 0) Tryz.underlying9 rfl rfl (by omega) (getD_some (by omega)) rfl) (l_q (q_neq rfl rfl rfl) (l_nil (r_cond rfl (fun hc2 => ?_) (fun hc2 => ?_))))))))))))
 ·
  replace hc2 := df (nt hc2)
  have hb := u8_ne (n := 45) hc2
  refine r_seq (r_region' (l_o (o_call Tryz.call183 rfl (never_ret _) rfl ?_)))
  rintro _ w3 ⟨rfl, rfl⟩
  refine l_q (q_extract (vs := [_, _]) (v := .string _) rfl rfl rfl) (l_q (q_extract (vs := [_, _]) (v := .string _) rfl rfl rfl) (l_q (q_assign (v := .string _) rfl rfl) (l_q (q_assign (v := .string _) rfl rfl) (l_nil (r_ret_ (vs := [.string _, .string _]) rfl Tryz.func176 rfl (.nil _) ⟨rfl, rfl, trivial⟩ ?_)))))
  exact ⟨tup2 (vstr_eq (by unfold ofK; simp_all)) (vstr_eq (by unfold ofK; simp_all)), Ext.of_below hB⟩
 ·
  replace hc2 := dt (nf hc2)
  have hb := u8_eq (n := 45) hc2
  refine r_skip (r_seq (r_region' (l_q (q_fieldAddr (o' := 0) rfl fld178_0 rfl) (l_q (q_load Tryz.isAgg9 rfl ((hb1.has (o := 0) rfl)) rfl) (l_q (q_slice_str_hi Tryz.underlying9 rfl rfl (by omega) rfl) (l_q (q_assign (v := .string _) rfl rfl) (l_q (q_assign (v := .string _) rfl rfl) (l_nil (r_ret_ (vs := [.string _, .string _]) rfl Tryz.func176 rfl (.nil _) ⟨rfl, rfl, trivial⟩ ?_)))))))))
  exact ⟨tup2 (vstr_eq (by unfold ofK; simp_all)) (vstr_eq (by unfold ofK; simp_all)), Ext.of_below hB⟩
theorem k3_ret (s r : Sg) (w : World) (hs : s.length ≤ 2097152) (hs0 : 1 ≤ s.length) : Ret Tryz.prog 177 [.agg ⟨[vstr s, vstr r]⟩] w (fun v w' => v = .tuple ⟨[vstr ((ofK (3 : Int) s).1), vstr ((ofK (3 : Int) s).2)]⟩ ∧ Ext w w') := by
 have hB := Below.refl w.heap.size w
 have hsz : w.heap.size ≤ w.heap.size := Nat.le_refl _
 refine ret_of_runs (args := [_]) Tryz.func177 rfl (Nat.le_of_ble_eq_true rfl) (by kernel_rfl) (r_seq (r_region' (l_o (o_box rfl rfl rfl ?_))))
 intro b1 w1 hzl1 hzr1 _ hb1 hE1
 have hbs_b1 : w.heap.size ≤ b1 := Nat.le_trans hsz hzl1
 replace hB := below_ext hB hE1 hsz
 replace hsz := Nat.le_trans hsz hE1.size
 refine l_q (q_assign (v := .string _) rfl rfl) (l_q (q_assign (v := .string _) rfl rfl) (l_nil (r_seq (r_seq (r_region' (l_q (q_fieldAddr (o' := 0) rfl fld178_0 rfl) (l_q (q_load Tryz.isAgg9 rfl ((hb1.has (o := 0) rfl)) rfl) (l_o (o_call Tryz.call169 rfl (hasPrefix_ret _ _ _) rfl ?_)))))))))
 rintro _ w2 ⟨rfl, rfl⟩
 refine l_q (q_not rfl rfl) (l_nil (r_cond rfl (fun hc3 => ?_) (fun hc3 => ?_)))
 ·
  replace hc3 := nt hc3
  have hb := hc3
  refine r_seq (r_region' (l_o (o_call Tryz.call183 rfl (never_ret _) rfl ?_)))
  rintro _ w4 ⟨rfl, rfl⟩
  refine l_q (q_extract (vs := [_, _]) (v := .string _) rfl rfl rfl) (l_q (q_extract (vs := [_, _]) (v := .string _) rfl rfl rfl) (l_q (q_assign (v := .string _) rfl rfl) (l_q (q_assign (v := .string _) rfl rfl) (l_nil (r_ret_ (vs := [.string _, .string _]) rfl Tryz.func177 rfl (.nil _) ⟨rfl, rfl, trivial⟩ ?_)))))
  exact ⟨tup2 (vstr_eq (by unfold ofK; simp_all)) (vstr_eq (by unfold ofK; simp_all)), Ext.of_below hB⟩
 ·
  replace hc3 := nf hc3
  have hb := hc3
  have hl2 : 2 ≤ s.length := pfx_len hb
  refine r_skip (r_seq (r_region' (l_q (q_fieldAddr (o' := 0) rfl fld178_0 rfl) (l_q (q_load Tryz.isAgg9 rfl ((hb1.has (o := 0) rfl)) rfl) (l_q (q_slice_str_hi Tryz.underlying9 rfl rfl (by omega) rfl) (l_q (q_assign (v := .string _) rfl rfl) (l_q (q_assign (v := .string _) rfl rfl) (l_nil (r_ret_ (vs := [.string _, .string _]) rfl Tryz.func177 rfl (.nil _) ⟨rfl, rfl, trivial⟩ ?_)))))))))
  exact ⟨tup2 (vstr_eq (by unfold ofK; simp_all)) (vstr_eq (by unfold ofK; simp_all)), Ext.of_below hB⟩
theorem k4_ret (s r : Sg) (w : World) (hs : s.length ≤ 2097152) (hs0 : 1 ≤ s.length) : Ret Tryz.prog 178 [.agg ⟨[vstr s, vstr r]⟩] w (fun v w' => v = .tuple ⟨[vstr ((ofK (4 : Int) s).1), vstr ((ofK (4 : Int) s).2)]⟩ ∧ Ext w w') := by
 have hB := Below.refl w.heap.size w
 have hsz : w.heap.size ≤ w.heap.size := Nat.le_refl _
 refine ret_of_runs (args := [_]) Tryz.func178 rfl (Nat.le_of_ble_eq_true rfl) (by kernel_rfl) (r_seq (r_region' (l_o (o_box rfl rfl rfl ?_))))
 intro b1 w1 hzl1 hzr1 _ hb1 hE1
 have hbs_b1 : w.heap.size ≤ b1 := Nat.le_trans hsz hzl1
 replace hB := below_ext hB hE1 hsz
 replace hsz := Nat.le_trans hsz hE1.size
 refine l_q (q_assign (v := .string _) rfl rfl) (l_q (q_assign (v := .string _) rfl rfl) (l_nil (r_seq (r_seq (r_region' (l_q (q_fieldAddr (o' := 0) rfl fld178_0 rfl) (l_q (q_load Tryz.isAgg9 rfl ((hb1.has (o := 0) rfl)) rfl) (l_q (q_index_str (c := (s).getD 0 0) Tryz.underlying9 rfl rfl (by omega) (getD_some (by omega)) rfl) (l_q (q_neq rfl rfl rfl) (l_nil (r_cond rfl (fun hc2 => ?_) (fun hc2 => ?_))))))))))))
 ·
  replace hc2 := df (nt hc2)
  have hb := u8_ne (n := 32) hc2
  refine r_seq (r_region' (l_o (o_call Tryz.call183 rfl (never_ret _) rfl ?_)))
  rintro _ w3 ⟨rfl, rfl⟩
  refine l_q (q_extract (vs := [_, _]) (v := .string _) rfl rfl rfl) (l_q (q_extract (vs := [_, _]) (v := .string _) rfl rfl rfl) (l_q (q_assign (v := .string _) rfl rfl) (l_q (q_assign (v := .string _) rfl rfl) (l_nil (r_ret_ (vs := [.string _, .string _]) rfl Tryz.func178 rfl (.nil _) ⟨rfl, rfl, trivial⟩ ?_)))))
  exact ⟨tup2 (vstr_eq (by unfold ofK; simp_all)) (vstr_eq (by unfold ofK; simp_all)), Ext.of_below hB⟩
 ·
  replace hc2 := dt (nf hc2)
  have hb := u8_eq (n := 32) hc2
  refine r_skip (r_seq (r_region' (l_q (q_fieldAddr (o' := 0) rfl fld178_0 rfl) (l_q (q_load Tryz.isAgg9 rfl ((hb1.has (o := 0) rfl)) rfl) (l_q (q_slice_str_hi Tryz.underlying9 rfl rfl (by omega) rfl) (l_q (q_assign (v := .string _) rfl rfl) (l_q (q_assign (v := .string _) rfl rfl) (l_nil (r_ret_ (vs := [.string _, .string _]) rfl Tryz.func178 rfl (.nil _) ⟨rfl, rfl, trivial⟩ ?_)))))))))
  exact ⟨tup2 (vstr_eq (by unfold ofK; simp_all)) (vstr_eq (by unfold ofK; simp_all)), Ext.of_below hB⟩
theorem k5_ret (s r : Sg) (w : World) (hs : s.length ≤ 2097152) : Ret Tryz.prog 179 [.agg ⟨[vstr s, vstr r]⟩] w (fun v w' => v = .tuple ⟨[vstr ((ofK (5 : Int) s).1), vstr ((ofK (5 : Int) s).2)]⟩ ∧ Ext w w') := by
 have hB := Below.refl w.heap.size w
 have hsz : w.heap.size ≤ w.heap.size := Nat.le_refl _
 refine ret_of_runs (args := [_]) Tryz.func179 rfl (Nat.le_of_ble_eq_true rfl) (by kernel_rfl) (r_seq (r_region' (l_o (o_box rfl rfl rfl ?_))))
 intro b1 w1 hzl1 hzr1 _ hb1 hE1
 have hbs_b1 : w.heap.size ≤ b1 := Nat.le_trans hsz hzl1
 replace hB := below_ext hB hE1 hsz
 replace hsz := Nat.le_trans hsz hE1.size
 refine l_q (q_assign (v := .string _) rfl rfl) (l_q (q_assign (v := .string _) rfl rfl) (l_nil (r_seq (r_region' (l_q (q_assign (v := .string _) rfl rfl) (l_q (q_assign (v := .string _) rfl rfl) (l_nil (r_ret_ (vs := [.string _, .string _]) rfl Tryz.func179 rfl (.nil _) ⟨rfl, rfl, trivial⟩ ?_))))))))
 exact ⟨rfl, Ext.of_below hB⟩
def kindCells : List Value := [vint 0, vint 0, .func (.func 174) ⟨[]⟩ ⟨[]⟩, vint 1, vint 1, .func (.func 175) ⟨[]⟩ ⟨[]⟩, vint 2, vint 1, .func (.func 176) ⟨[]⟩ ⟨[]⟩, vint 3, vint 1, .func (.func 177) ⟨[]⟩ ⟨[]⟩, vint 4, vint 1, .func (.func 178) ⟨[]⟩ ⟨[]⟩, vint 5, vint 1, .func (.func 179) ⟨[]⟩ ⟨[]⟩]
theorem kinds_ret (w : World) : Ret Tryz.prog 168 [] w (fun v w' => ∃ b, v = .slice (some ⟨b, 0, none⟩) 6 6 ∧ w.heap.size ≤ b ∧ Blk w' b kindCells ∧ Ext w w') := by
 have hB := Below.refl w.heap.size w
 have hsz : w.heap.size ≤ w.heap.size := Nat.le_refl _
 refine ret_of_runs (args := []) Tryz.func168 rfl (Nat.le_of_ble_eq_true rfl) (by kernel_rfl) (r_seq (r_region' (l_q (qas rfl rfl) (l_nil (r_seq (r_region' (l_q (q_build (v := .agg ⟨[vint 0, vint 0, .func (.func 174) ⟨[]⟩ ⟨[]⟩]⟩) (fun w => by kernel_rfl) rfl) (l_q (q_build (v := .agg ⟨[vint 1, vint 1, .func (.func 175) ⟨[]⟩ ⟨[]⟩]⟩) (fun w => by kernel_rfl) rfl) (l_q (q_build (v := .agg ⟨[vint 2, vint 1, .func (.func 176) ⟨[]⟩ ⟨[]⟩]⟩) (fun w => by kernel_rfl) rfl) (l_q (q_build (v := .agg ⟨[vint 3, vint 1, .func (.func 177) ⟨[]⟩ ⟨[]⟩]⟩) (fun w => by kernel_rfl) rfl) (l_q (q_build (v := .agg ⟨[vint 4, vint 1, .func (.func 178) ⟨[]⟩ ⟨[]⟩]⟩) (fun w => by kernel_rfl) rfl) (l_q (q_build (v := .agg ⟨[vint 5, vint 1, .func (.func 179) ⟨[]⟩ ⟨[]⟩]⟩) (fun w => by kernel_rfl) rfl) ?_))))))))))))
 refine l_o (o_buildSlice (el := 214) (cs := [vint 0, vint 0, .func (.func 174) ⟨[]⟩ ⟨[]⟩, vint 1, vint 1, .func (.func 175) ⟨[]⟩ ⟨[]⟩, vint 2, vint 1, .func (.func 176) ⟨[]⟩ ⟨[]⟩, vint 3, vint 1, .func (.func 177) ⟨[]⟩ ⟨[]⟩, vint 4, vint 1, .func (.func 178) ⟨[]⟩ ⟨[]⟩, vint 5, vint 1, .func (.func 179) ⟨[]⟩ ⟨[]⟩]) Tryz.underlying232 el214 (by decide) (by kernel_rfl) rfl (by decide) rfl ?_)
 intro b1 w1 hzl1 hzr1 _ hb1 hE1 ho1
 have hbs_b1 : w.heap.size ≤ b1 := Nat.le_trans hsz hzl1
 replace hB := below_ext hB hE1 hsz
 replace hsz := Nat.le_trans hsz hE1.size
 refine l_q (qas rfl rfl) (l_nil (r_ret_ (vs := [.slice _ _ _]) rfl Tryz.func168 rfl (.nil _) ⟨rfl, trivial⟩ ?_))
 exact ⟨_, rfl, hbs_b1, hb1, Ext.of_below hB⟩
theorem kinds_at {w : World} {b k : Nat} (h : Blk w b kindCells) (hk : k < 6) : Cells w b (0 + k * 3) [vint (k : Int), vint (cost (k : Int)), .func (.func (174 + k)) ⟨[]⟩ ⟨[]⟩] := by
  have hc := h.cells0
  intro j v hj
  have h2 := hc (k * 3 + j) v (by
    rcases (show k = 0 ∨ k = 1 ∨ k = 2 ∨ k = 3 ∨ k = 4 ∨ k = 5 by omega) with rfl | rfl | rfl | rfl | rfl | rfl <;>
      (rcases j with _ | _ | _ | j <;> first | (exact hj) | (simp at hj)))
  rwa [← Nat.add_assoc] at h2
theorem kind_in {k : Nat} (hk : k < 6) : ∀ args w, (callFunc (174 + k) args).run Tryz.prog w = .ok (.enter (174 + k) args) w := by
  rcases (show k = 0 ∨ k = 1 ∨ k = 2 ∨ k = 3 ∨ k = 4 ∨ k = 5 by omega) with rfl | rfl | rfl | rfl | rfl | rfl
  · exact Tryz.call174
  · exact Tryz.call175
  · exact Tryz.call176
  · exact Tryz.call177
  · exact Tryz.call178
  · exact Tryz.call179
theorem kind_ret (k : Nat) (s r : Sg) (w : World) (hk : k < 6) (hs : s.length ≤ 2097152) (h0 : k = 5 ∨ 1 ≤ s.length) : Ret Tryz.prog (174 + k) [.agg ⟨[vstr s, vstr r]⟩] w (fun v w' => v = .tuple ⟨[vstr (ofK (k : Int) s).1, vstr (ofK (k : Int) s).2]⟩ ∧ Ext w w') := by
  rcases (show k = 0 ∨ k = 1 ∨ k = 2 ∨ k = 3 ∨ k = 4 ∨ k = 5 by omega) with rfl | rfl | rfl | rfl | rfl | rfl
  · exact k0_ret s r w hs (by omega)
  · exact k1_ret s r w hs (by omega)
  · exact k2_ret s r w hs (by omega)
  · exact k3_ret s r w hs (by omega)
  · exact k4_ret s r w hs (by omega)
  · exact k5_ret s r w hs
theorem next1_ret (l b : Nat) (s r : Sg) (J : Nat → World → Prop) (E : World → Prop) (w : World) (hs : s.length ≤ 2097152) (hr : r.length ≤ 2097152) (hr33 : ∀ x ∈ r, x ≠ 33) (hbN : b < w.heap.size) (h0 : J 0 w) (hJb : ∀ k w, J k w → Blk w b [vstr s, vstr r]) (hJs : ∀ k w1 w2, J k w1 → Below w.heap.size w1 w2 → J k w2) (hskip : ∀ (k : Nat) w, k < 6 → J k w → (stepR (k : Int) s r).2.2 = false → J (k + 1) w) (hy : ∀ (k : Nat) w1, k < 6 → J k w1 → w.heap.size ≤ w1.heap.size → stepR (k : Int) s r = (s.drop (ofK (k : Int) s).1.length, r.drop (ofK (k : Int) s).2.length, true) →
     YieldAt Tryz.prog l [.agg ⟨[vint (k : Int), vint (cost (k : Int)), .func (.func (174 + k)) ⟨[]⟩ ⟨[]⟩]⟩, .agg ⟨[vstr (s.drop (ofK (k : Int) s).1.length), vstr (r.drop (ofK (k : Int) s).2.length)]⟩] w1
       (fun v w2 => ∃ y : Bool, v = .bool y ∧ (y = true → J (k + 1) w2) ∧ (y = false → E w2) ∧ Fr w.heap.size w1 w2 ∧ Blk w2 b [vstr s, vstr r])) : Ret Tryz.prog 167 [.func (.yield l) ⟨[]⟩ ⟨[]⟩, ptr b 0] w (fun v w' => J 6 w' ∨ E w') := by
 have hb := hJb _ _ h0
 have hJ := h0
 have hsz : w.heap.size ≤ w.heap.size := Nat.le_refl _
 refine ret_of_runs (args := [_, _]) Tryz.func167 rfl (Nat.le_of_ble_eq_true rfl) (by kernel_rfl) (r_seq (r_region' (l_o (o_call Tryz.call168 rfl (kinds_ret _) rfl ?_))))
 rintro _ w1 ⟨bk, rfl, hbk, hk7, hE1⟩
 replace hb := hb.ext hE1
 replace hJ := hJs _ _ _ hJ (below_ext_of hE1 hsz)
 replace hsz := Nat.le_trans hsz hE1.size
 have hbs_bk := hbk
 have hne_b_bk : b ≠ bk := by omega
 refine l_q (q_len rfl Tryz.underlying232 rfl rfl) (l_q (qmi rfl rfl) (l_nil (r_block (r_rounds (α := Nat) (fun k e wl => Knows e [(0, .func (.yield l) ⟨[]⟩ ⟨[]⟩), (1, ptr b 0), (7, .slice (some ⟨bk, 0, none⟩) 6 6), (8, vint 6), (9, vint (k : Int))] ∧ (k ≤ 6) ∧ (J k wl) ∧ (Blk wl b [vstr s, vstr r]) ∧ (Blk wl bk kindCells) ∧ (w.heap.size ≤ wl.heap.size)) (fun k => 6 - k) 0 ?_ ?_))))
 ·
  exact ⟨⟨rfl, rfl, rfl, rfl, rfl, trivial⟩, (Nat.zero_le _), hJ, hb, hk7, hsz⟩
 ·
  rintro k el2 wl2 ⟨hkn, hkk, hJ, hb, hk7, hsz⟩ ih2
  obtain ⟨e2, rfl⟩ := knows_env hkn
  refine r_seq (r_region' (l_q (q_lss rfl rfl rfl) (l_nil (r_seq (r_cond rfl (fun hc3 => ?_) (fun hc3 => ?_))))))
  ·
   replace hc3 := dt hc3
   refine r_skip (r_seq (r_block (r_seq (r_region' (l_q (q_indexAddr Tryz.underlying232 Tryz.sizeOf214 rfl rfl rfl (by omega) rfl) (l_q (q_load_agg (cs := [vint (k : Int), vint (cost (k : Int)), .func (.func (174 + k)) ⟨[]⟩ ⟨[]⟩]) (n := 3) Tryz.isAgg214 Tryz.sizeOf214 rfl ((kinds_at hk7 (show k < 6 by omega))) rfl rfl) (l_o (o_alloc Tryz.zeroValue214 rfl rfl ?_))))))))
   intro b4 w4 hzl4 hzr4 _ hb4 hE4
   have hne_b_b4 : b ≠ b4 := by have := hb.lt; omega
   have hne_bk_b4 : bk ≠ b4 := by have := hk7.lt; omega
   have hbs_b4 : w.heap.size ≤ b4 := Nat.le_trans hsz hzl4
   replace hb := hb.ext hE4
   replace hJ := hJs _ _ _ hJ (below_ext_of hE4 hsz)
   replace hk7 := hk7.ext hE4
   replace hsz := Nat.le_trans hsz hE4.size
   refine l_o (o_store (vs := [vint (k : Int), vint (cost (k : Int)), .func (.func (174 + k)) ⟨[]⟩ ⟨[]⟩]) (cs' := [vint (k : Int), vint (cost (k : Int)), .func (.func (174 + k)) ⟨[]⟩ ⟨[]⟩]) Tryz.sizeOf214 rfl rfl rfl rfl hb4 (Nat.le_of_ble_eq_true rfl) rfl rfl ?_)
   intro w5 hz5 hb4 hG5
   replace hsz : w.heap.size ≤ w5.heap.size := by rw [hz5]; exact hsz
   replace hb := hb.upd hG5 (by omega)
   replace hJ := hJs _ _ _ hJ (below_upd_of hG5 hbs_b4 (by omega))
   replace hk7 := hk7.upd hG5 (by omega)
   refine l_nil (r_seq (r_seq (r_region' (l_q (q_fieldAddr (o' := 0) rfl fld178_0 rfl) (l_q (q_load Tryz.isAgg9 rfl ((hb.has (o := 0) rfl)) rfl) (l_q (q_eql_str rfl rfl rfl) (l_q (qmb rfl rfl) (l_part 16 rfl (fun hc6 => ?_) (fun hc6 => ?_)))))))))
   ·
    replace hc6 := dt hc6
    have hs0 := hc6
    refine l_q (q_fieldAddr (o' := 0) rfl fld214_0 rfl) (l_q (q_load Tryz.isAgg3 rfl ((hb4.has (o := 0) rfl)) rfl) (l_q (q_neq rfl rfl rfl) (l_q (q_pick_t (v := .bool _) rfl rfl rfl) (l_nil (r_forget [(0, .func (.yield l) ⟨[]⟩ ⟨[]⟩), (1, .pointer _), (4, .pointer _), (7, .slice _ _ _), (8, .int _ _), (9, .int _ _), (20, .bool _)] ⟨rfl, rfl, rfl, rfl, rfl, rfl, rfl, trivial⟩ (fun e7 => (r_cond rfl (fun hc8 => ?_) (fun hc8 => ?_))))))))
    ·
     replace hc8 := df (nt hc8)
     have hJn := hskip k _ (by omega) hJ (step_empty hs0 (by omega))
     refine r_exit rfl (r_region' (l_q (q_add rfl rfl (by omega) rfl) (l_q (qmi rfl rfl) (l_nil ?_))))
     exact ih2 (k + 1) _ _ ⟨⟨rfl, rfl, rfl, rfl, by first | rfl | exact vint_eq (by omega), trivial⟩, (by omega), hJn, hb, hk7, hsz⟩ (by first | omega | (dsimp only; omega))
    ·
     replace hc8 := dt (nf hc8)
     have h5 : k = 5 ∨ 1 ≤ s.length := by first | assumption | omega
     refine r_skip (r_seq (r_region' (l_q (q_fieldAddr (o' := 2) rfl fld214_2 rfl) (l_q (q_load Tryz.isAgg212 rfl ((hb4.has (o := 2) rfl)) rfl) (l_q (q_load_agg (n := 2) Tryz.isAgg178 Tryz.sizeOf178 rfl ((hb.cells' (cs' := [_, _]) 0 2 rfl)) rfl rfl) (l_o (o_callv (f := 174 + k) (fst := []) (cap := []) rfl (kind_in (by omega)) rfl (kind_ret k s r _ (by omega) hs h5) rfl ?_)))))))
     rintro _ w9 ⟨rfl, hE9⟩
     replace hb := hb.ext hE9
     replace hJ := hJs _ _ _ hJ (below_ext_of hE9 hsz)
     replace hk7 := hk7.ext hE9
     replace hb4 := hb4.ext hE9
     replace hsz := Nat.le_trans hsz hE9.size
     refine l_q (q_move (v := .tuple _) rfl rfl) (l_q (q_extract (vs := [_, _]) (v := .string _) rfl rfl rfl) (l_q (q_extract (vs := [_, _]) (v := .string _) rfl rfl rfl) (l_q (q_assign (v := .string _) rfl rfl) (l_q (q_assign (v := .string _) rfl rfl) (l_nil (r_seq (r_draw (FrB.refl' w.heap.size b [vstr s, vstr r]) (FrB.trans' w.heap.size b [vstr s, vstr r]) [0, 1, 2, 3, 4, 5, 6, 7, 8, 9, 10, 11, 12, 13, 14, 15, 16, 17, 18, 19, 20] [3, 18] 2 (by kernel_rfl) (by kernel_rfl) ?_)))))))
     intro w10 _ hE10
     replace hb := hb.ext hE10
     replace hJ := hJs _ _ _ hJ (below_ext_of hE10 hsz)
     replace hk7 := hk7.ext hE10
     replace hb4 := hb4.ext hE10
     replace hsz := Nat.le_trans hsz hE10.size
     refine m_q rfl rfl (fun w' hC' => q_fieldAddr (o' := 1) rfl fld178_1 rfl) (m_q rfl rfl (fun w' hC' => q_load Tryz.isAgg9 rfl (((hC'.2 hb).has (o := 1) rfl)) rfl) (m_q rfl rfl (fun w' hC' => q_move (v := .string _) rfl rfl) (m_o rfl rfl (o_call Tryz.call169 rfl (hasPrefix_ret _ _ _) rfl ?_))))
     rintro _ w11 ⟨rfl, rfl⟩
     refine ⟨⟨Fr.refl _ _, fun h => h⟩, ?_⟩
     refine m_q rfl rfl (fun w' hC' => qmb rfl rfl) (m_part 32 rfl (fun hc12 => ?_) (fun hc12 => ?_))
     ·
      have hpf : hasPfx r (ofK (k : Int) s).2 = true := hc12
      have hol := ofK_len (k := k) (by omega) h5
      have hpl := pfx_len hpf
      refine m_q rfl rfl (fun w' hC' => q_move (v := .func (.yield l) ⟨[]⟩ ⟨[]⟩) rfl rfl) (m_q rfl rfl (fun w' hC' => q_load_agg (n := 3) Tryz.isAgg214 Tryz.sizeOf214 rfl (((hb4.fr hC'.1 hbs_b4).cells' (cs' := [_, _, _]) 0 3 rfl)) rfl rfl) (m_q rfl rfl (fun w' hC' => q_fieldAddr (o' := 0) rfl fld178_0 rfl) (m_q rfl rfl (fun w' hC' => q_load Tryz.isAgg9 rfl (((hC'.2 hb).has (o := 0) rfl)) rfl) (m_q rfl rfl (fun w' hC' => q_move (v := .string _) rfl rfl) (m_q rfl rfl (fun w' hC' => q_len_str rfl Tryz.underlying9 rfl rfl) (m_q rfl rfl (fun w' hC' => q_slice_str_lo Tryz.underlying9 rfl rfl (by omega) rfl) (m_q rfl rfl (fun w' hC' => q_fieldAddr (o' := 1) rfl fld178_1 rfl) (m_q rfl rfl (fun w' hC' => q_load Tryz.isAgg9 rfl (((hC'.2 hb).has (o := 1) rfl)) rfl) (m_q rfl rfl (fun w' hC' => q_move (v := .string _) rfl rfl) (m_q rfl rfl (fun w' hC' => q_len_str rfl Tryz.underlying9 rfl rfl) ?_))))))))))
      refine m_q rfl rfl (fun w' hC' => q_slice_str_lo Tryz.underlying9 rfl rfl (by omega) rfl) (m_q rfl rfl (fun w' hC' => q_build (v := .agg ⟨[vstr ((s).drop (((ofK (k : Int) s).1).length : Int).toNat), vstr ((r).drop (((ofK (k : Int) s).2).length : Int).toNat)]⟩) (fun w => by kernel_rfl) rfl) (m_o rfl rfl (o_yield rfl rfl (hy k _ (by omega) hJ (by omega) (ofK_step (by omega) h5 hr33 hpf)) rfl ?_)))
      rintro _ w13 ⟨y46, rfl, hJy, hEy, hFr, hbb⟩
      refine ⟨⟨hFr, fun _ => hbb⟩, ?_⟩
      replace hb := hbb
      replace hk7 := hk7.fr hFr hbs_bk
      replace hb4 := hb4.fr hFr hbs_b4
      replace hsz := Nat.le_trans hsz hFr.size
      refine m_q rfl rfl (fun w' hC' => q_not rfl rfl) (m_q rfl rfl (fun w' hC' => q_pick_t (v := .bool _) rfl rfl rfl) (m_nil (r_forget [(0, .func (.yield l) ⟨[]⟩ ⟨[]⟩), (1, .pointer _), (7, .slice _ _ _), (8, .int _ _), (9, .int _ _), (48, .bool _)] ⟨rfl, rfl, rfl, rfl, rfl, rfl, trivial⟩ (fun e14 => (r_cond rfl (fun hc15 => ?_) (fun hc15 => ?_))))))
      ·
       replace hc15 := nt hc15
       have hE2 := hEy hc15
       refine r_ret_ (vs := []) rfl Tryz.func167 rfl (.nil _) trivial ?_
       exact .inr hE2
      ·
       replace hc15 := nf hc15
       have hJn := hJy hc15
       refine r_skip (r_inBlock (r_region' (l_q (q_add rfl rfl (by omega) rfl) (l_q (qmi rfl rfl) (l_nil ?_)))))
       exact ih2 (k + 1) _ _ ⟨⟨rfl, rfl, rfl, rfl, by first | rfl | exact vint_eq (by omega), trivial⟩, (by omega), hJn, hb, hk7, hsz⟩ (by first | omega | (dsimp only; omega))
     ·
      have hJn := hskip k _ (by omega) hJ (ofK_no (by omega) h5 hr33 hc12)
      refine m_q rfl rfl (fun w' hC' => q_skip rfl) (m_q rfl rfl (fun w' hC' => q_skip rfl) (m_q rfl rfl (fun w' hC' => q_skip rfl) (m_q rfl rfl (fun w' hC' => q_skip rfl) (m_q rfl rfl (fun w' hC' => q_skip rfl) (m_q rfl rfl (fun w' hC' => q_skip rfl) (m_q rfl rfl (fun w' hC' => q_skip rfl) (m_q rfl rfl (fun w' hC' => q_skip rfl) (m_q rfl rfl (fun w' hC' => q_skip rfl) (m_q rfl rfl (fun w' hC' => q_skip rfl) (m_q rfl rfl (fun w' hC' => q_skip rfl) (m_q rfl rfl (fun w' hC' => q_skip rfl) (m_q rfl rfl (fun w' hC' => q_skip rfl) (m_o rfl rfl ((q_skip rfl).eff ⟨⟨Fr.refl _ _, fun h => h⟩, ?_⟩))))))))))))))
      refine m_q rfl rfl (fun w' hC' => q_skip rfl) (m_q rfl rfl (fun w' hC' => q_pick_f (v := .bool _) rfl rfl rfl) (m_nil (r_forget [(0, .func (.yield l) ⟨[]⟩ ⟨[]⟩), (1, .pointer _), (7, .slice _ _ _), (8, .int _ _), (9, .int _ _), (48, .bool _)] ⟨rfl, rfl, rfl, rfl, rfl, rfl, trivial⟩ (fun e16 => (r_cond_f rfl (r_skip (r_inBlock (r_region' (l_q (q_add rfl rfl (by omega) rfl) (l_q (qmi rfl rfl) (l_nil ?_)))))))))))
      exact ih2 (k + 1) _ _ ⟨⟨rfl, rfl, rfl, rfl, by first | rfl | exact vint_eq (by omega), trivial⟩, (by omega), hJn, hb, hk7, hsz⟩ (by first | omega | (dsimp only; omega))
   ·
    replace hc6 := df hc6
    have h5 : k = 5 ∨ 1 ≤ s.length := .inr (List.length_pos_iff.2 hc6)
    refine l_q (q_skip rfl) (l_q (q_skip rfl) (l_q (q_skip rfl) (l_q (q_pick_f (v := .bool _) rfl rfl rfl) (l_nil (r_forget [(0, .func (.yield l) ⟨[]⟩ ⟨[]⟩), (1, .pointer _), (4, .pointer _), (7, .slice _ _ _), (8, .int _ _), (9, .int _ _), (20, .bool _)] ⟨rfl, rfl, rfl, rfl, rfl, rfl, rfl, trivial⟩ (fun e17 => (r_cond_f rfl (r_skip (r_seq (r_region' (l_q (q_fieldAddr (o' := 2) rfl fld214_2 rfl) (l_q (q_load Tryz.isAgg212 rfl ((hb4.has (o := 2) rfl)) rfl) (l_q (q_load_agg (n := 2) Tryz.isAgg178 Tryz.sizeOf178 rfl ((hb.cells' (cs' := [_, _]) 0 2 rfl)) rfl rfl) (l_o (o_callv (f := 174 + k) (fst := []) (cap := []) rfl (kind_in (by omega)) rfl (kind_ret k s r _ (by omega) hs h5) rfl ?_)))))))))))))))
    rintro _ w18 ⟨rfl, hE18⟩
    replace hb := hb.ext hE18
    replace hJ := hJs _ _ _ hJ (below_ext_of hE18 hsz)
    replace hk7 := hk7.ext hE18
    replace hb4 := hb4.ext hE18
    replace hsz := Nat.le_trans hsz hE18.size
    refine l_q (q_move (v := .tuple _) rfl rfl) (l_q (q_extract (vs := [_, _]) (v := .string _) rfl rfl rfl) (l_q (q_extract (vs := [_, _]) (v := .string _) rfl rfl rfl) (l_q (q_assign (v := .string _) rfl rfl) (l_q (q_assign (v := .string _) rfl rfl) (l_nil (r_seq (r_draw (FrB.refl' w.heap.size b [vstr s, vstr r]) (FrB.trans' w.heap.size b [vstr s, vstr r]) [0, 1, 2, 3, 4, 5, 6, 7, 8, 9, 10, 11, 12, 13, 14, 15, 16, 17, 18, 19, 20] [3, 18] 2 (by kernel_rfl) (by kernel_rfl) ?_)))))))
    intro w19 _ hE19
    replace hb := hb.ext hE19
    replace hJ := hJs _ _ _ hJ (below_ext_of hE19 hsz)
    replace hk7 := hk7.ext hE19
    replace hb4 := hb4.ext hE19
    replace hsz := Nat.le_trans hsz hE19.size
    refine m_q rfl rfl (fun w' hC' => q_fieldAddr (o' := 1) rfl fld178_1 rfl) (m_q rfl rfl (fun w' hC' => q_load Tryz.isAgg9 rfl (((hC'.2 hb).has (o := 1) rfl)) rfl) (m_q rfl rfl (fun w' hC' => q_move (v := .string _) rfl rfl) (m_o rfl rfl (o_call Tryz.call169 rfl (hasPrefix_ret _ _ _) rfl ?_))))
    rintro _ w20 ⟨rfl, rfl⟩
    refine ⟨⟨Fr.refl _ _, fun h => h⟩, ?_⟩
    refine m_q rfl rfl (fun w' hC' => qmb rfl rfl) (m_part 32 rfl (fun hc21 => ?_) (fun hc21 => ?_))
    ·
     have hpf : hasPfx r (ofK (k : Int) s).2 = true := hc21
     have hol := ofK_len (k := k) (by omega) h5
     have hpl := pfx_len hpf
     refine m_q rfl rfl (fun w' hC' => q_move (v := .func (.yield l) ⟨[]⟩ ⟨[]⟩) rfl rfl) (m_q rfl rfl (fun w' hC' => q_load_agg (n := 3) Tryz.isAgg214 Tryz.sizeOf214 rfl (((hb4.fr hC'.1 hbs_b4).cells' (cs' := [_, _, _]) 0 3 rfl)) rfl rfl) (m_q rfl rfl (fun w' hC' => q_fieldAddr (o' := 0) rfl fld178_0 rfl) (m_q rfl rfl (fun w' hC' => q_load Tryz.isAgg9 rfl (((hC'.2 hb).has (o := 0) rfl)) rfl) (m_q rfl rfl (fun w' hC' => q_move (v := .string _) rfl rfl) (m_q rfl rfl (fun w' hC' => q_len_str rfl Tryz.underlying9 rfl rfl) (m_q rfl rfl (fun w' hC' => q_slice_str_lo Tryz.underlying9 rfl rfl (by omega) rfl) (m_q rfl rfl (fun w' hC' => q_fieldAddr (o' := 1) rfl fld178_1 rfl) (m_q rfl rfl (fun w' hC' => q_load Tryz.isAgg9 rfl (((hC'.2 hb).has (o := 1) rfl)) rfl) (m_q rfl rfl (fun w' hC' => q_move (v := .string _) rfl rfl) (m_q rfl rfl (fun w' hC' => q_len_str rfl Tryz.underlying9 rfl rfl) ?_))))))))))
     refine m_q rfl rfl (fun w' hC' => q_slice_str_lo Tryz.underlying9 rfl rfl (by omega) rfl) (m_q rfl rfl (fun w' hC' => q_build (v := .agg ⟨[vstr ((s).drop (((ofK (k : Int) s).1).length : Int).toNat), vstr ((r).drop (((ofK (k : Int) s).2).length : Int).toNat)]⟩) (fun w => by kernel_rfl) rfl) (m_o rfl rfl (o_yield rfl rfl (hy k _ (by omega) hJ (by omega) (ofK_step (by omega) h5 hr33 hpf)) rfl ?_)))
     rintro _ w22 ⟨y46, rfl, hJy, hEy, hFr, hbb⟩
     refine ⟨⟨hFr, fun _ => hbb⟩, ?_⟩
     replace hb := hbb
     replace hk7 := hk7.fr hFr hbs_bk
     replace hsz := Nat.le_trans hsz hFr.size
     refine m_q rfl rfl (fun w' hC' => q_not rfl rfl) (m_q rfl rfl (fun w' hC' => q_pick_t (v := .bool _) rfl rfl rfl) (m_nil (r_forget [(0, .func (.yield l) ⟨[]⟩ ⟨[]⟩), (1, .pointer _), (7, .slice _ _ _), (8, .int _ _), (9, .int _ _), (48, .bool _)] ⟨rfl, rfl, rfl, rfl, rfl, rfl, trivial⟩ (fun e23 => (r_cond rfl (fun hc24 => ?_) (fun hc24 => ?_))))))
     ·
      replace hc24 := nt hc24
      have hE2 := hEy hc24
      refine r_ret_ (vs := []) rfl Tryz.func167 rfl (.nil _) trivial ?_
      exact .inr hE2
     ·
      replace hc24 := nf hc24
      have hJn := hJy hc24
      refine r_skip (r_inBlock (r_region' (l_q (q_add rfl rfl (by omega) rfl) (l_q (qmi rfl rfl) (l_nil ?_)))))
      exact ih2 (k + 1) _ _ ⟨⟨rfl, rfl, rfl, rfl, by first | rfl | exact vint_eq (by omega), trivial⟩, (by omega), hJn, hb, hk7, hsz⟩ (by first | omega | (dsimp only; omega))
    ·
     have hJn := hskip k _ (by omega) hJ (ofK_no (by omega) h5 hr33 hc21)
     refine m_q rfl rfl (fun w' hC' => q_skip rfl) (m_q rfl rfl (fun w' hC' => q_skip rfl) (m_q rfl rfl (fun w' hC' => q_skip rfl) (m_q rfl rfl (fun w' hC' => q_skip rfl) (m_q rfl rfl (fun w' hC' => q_skip rfl) (m_q rfl rfl (fun w' hC' => q_skip rfl) (m_q rfl rfl (fun w' hC' => q_skip rfl) (m_q rfl rfl (fun w' hC' => q_skip rfl) (m_q rfl rfl (fun w' hC' => q_skip rfl) (m_q rfl rfl (fun w' hC' => q_skip rfl) (m_q rfl rfl (fun w' hC' => q_skip rfl) (m_q rfl rfl (fun w' hC' => q_skip rfl) (m_q rfl rfl (fun w' hC' => q_skip rfl) (m_o rfl rfl ((q_skip rfl).eff ⟨⟨Fr.refl _ _, fun h => h⟩, ?_⟩))))))))))))))
     refine m_q rfl rfl (fun w' hC' => q_skip rfl) (m_q rfl rfl (fun w' hC' => q_pick_f (v := .bool _) rfl rfl rfl) (m_nil (r_forget [(0, .func (.yield l) ⟨[]⟩ ⟨[]⟩), (1, .pointer _), (7, .slice _ _ _), (8, .int _ _), (9, .int _ _), (48, .bool _)] ⟨rfl, rfl, rfl, rfl, rfl, rfl, trivial⟩ (fun e25 => (r_cond_f rfl (r_skip (r_inBlock (r_region' (l_q (q_add rfl rfl (by omega) rfl) (l_q (qmi rfl rfl) (l_nil ?_)))))))))))
     exact ih2 (k + 1) _ _ ⟨⟨rfl, rfl, rfl, rfl, by first | rfl | exact vint_eq (by omega), trivial⟩, (by omega), hJn, hb, hk7, hsz⟩ (by first | omega | (dsimp only; omega))
  ·
   replace hc3 := dlt hc3
   refine r_exit rfl (r_end_ (vs := []) rfl Tryz.func167 rfl (.nil _) trivial ?_)
   have hk6 : k = 6 := by omega
   subst hk6
   exact .inl hJ
theorem next_ret (s r : Sg) (w : World) : Ret Tryz.prog 155 [.agg ⟨[vstr s, vstr r]⟩] w (fun v w' => ∃ b, v = .func (.func 167) ⟨[]⟩ ⟨[ptr b 0]⟩ ∧ w.heap.size ≤ b ∧ Blk w' b [vstr s, vstr r] ∧ Ext w w') := by
 have hB := Below.refl w.heap.size w
 have hsz : w.heap.size ≤ w.heap.size := Nat.le_refl _
 refine ret_of_runs (args := [_]) Tryz.func155 rfl (Nat.le_of_ble_eq_true rfl) (by kernel_rfl) (r_seq (r_region' (l_o (o_box rfl rfl rfl ?_))))
 intro b1 w1 hzl1 hzr1 _ hb1 hE1
 have hbs_b1 : w.heap.size ≤ b1 := Nat.le_trans hsz hzl1
 replace hB := below_ext hB hE1 hsz
 replace hsz := Nat.le_trans hsz hE1.size
 refine l_q (q_assign (v := .nilFunc) rfl rfl) (l_nil (r_seq (r_region' (l_q (q_makeFunc (v := .func _ ⟨[]⟩ ⟨[_]⟩) rfl rfl) (l_q (q_assign (v := .func _ _ _) rfl rfl) (l_nil (r_ret_ (vs := [.func _ _ _]) rfl Tryz.func155 rfl (.nil _) ⟨rfl, trivial⟩ ?_)))))))
 exact ⟨_, rfl, hbs_b1, hb1, Ext.of_below hB⟩
end Go.Proofs.YtbikicakdkbcgacGreat
