/- Contracts. -/
import Derived.Test.YtekkdhpgcilpdaaGreatE1
import Derived.Test.YtekkdhpgcilpdaaGreatGvB
set_option linter.unusedVariables false
set_option linter.unusedSimpArgs false
namespace Go.Proofs.YtekkdhpgcilpdaaGreat
open Go Go.RowKit Go.Gv Go.Fl

def wroL (s : Sg) : List Sg := [s.take 1, [], [46, 46], [45], [], [32]]
theorem six_cases {k : Nat} (h : k < 6) : k = 0 ∨ k = 1 ∨ k = 2 ∨ k = 3 ∨ k = 4 ∨ k = 5 := by omega
theorem wro_tw {k : Nat} {s : Sg} {t : Nat} {wr : Sg} (hk : k < 6) (h : stepTW (k : Int) s = some (t, wr)) : (wroL s).getD k [] = wr := by
  have key : ∀ j : Nat, j < 6 → ∀ x, stepTW (j : Int) s = some x → (wroL s).getD j [] = x.2 := by
    intro j hj x hx
    unfold stepTW at hx
    repeat' split at hx
    all_goals first
      | (cases hx; done)
      | (cases hx; (first | (rw [show j = 0 by omega]; rfl) | (rw [show j = 1 by omega]; rfl) | (rw [show j = 2 by omega]; rfl) | (rw [show j = 3 by omega]; rfl) | (rw [show j = 4 by omega]; rfl) | (rw [show j = 5 by omega]; rfl)))
  exact key k hk _ h
theorem wro_at {k : Nat} {s : Sg} (hk : k < 6) : ([vstr (s.take 1), vstr [], vstr [46, 46], vstr [45], vstr [], vstr [32]] : List Value)[((k : Int)).toNat]? = some (vstr ((wroL s).getD k [])) := by
  rcases six_cases hk with rfl | rfl | rfl | rfl | rfl | rfl <;> rfl
theorem wro_len {k : Nat} {s : Sg} : ((wroL s).getD k []).length ≤ 2 := by
  by_cases hk : k < 6
  · rcases six_cases hk with rfl | rfl | rfl | rfl | rfl | rfl <;> simp [wroL, List.length_take]; omega
  · rw [List.getD_eq_getElem?_getD, List.getElem?_eq_none (by unfold wroL; simp; omega)]; simp
theorem mis_yes {k : Nat} {s : Sg} (hk : k < 6) (h : (stepR (k : Int) s ((wroL s).getD k [])).2.2 = true) : ∀ r, stepR (k : Int) s ((wroL s).getD k [] ++ r) = ((stepR (k : Int) s ((wroL s).getD k [])).1, r, true) := by
  intro r
  cases hw : stepTW (k : Int) s with
  | none => rw [stepR_none hw] at h; cases h
  | some p =>
    obtain ⟨t, wr⟩ := p
    have he := wro_tw hk hw
    rw [he, stepR_yes hw (pfx_append wr r)]
    have h2 := pfx_append wr []
    rw [List.append_nil] at h2
    rw [stepR_yes hw h2, List.drop_left]
theorem mis_no {s : Sg} (h : s ≠ []) : ∀ r, stepR (((0 : Nat) : Int)) s (s.take 1 ++ r) = (s.drop 1, r, true) := by
  intro r
  have hw : stepTW (((0 : Nat) : Int)) s = some (1, s.take 1) := by unfold stepTW; simp [h]
  rw [stepR_yes hw (pfx_append _ r), List.drop_left]
theorem mis_facts {k : Nat} {s wr lf : Sg} (h : ∀ r, stepR (k : Int) s (wr ++ r) = (lf, r, true)) (hk : k < 6) : wr.length ≤ 2 ∧ lf.length ≤ s.length ∧ (k = 0 → lf.length < s.length) ∧ (isSigns s = true → isSigns lf = true ∧ isSigns wr = true) := by
  have h0 := h []
  obtain ⟨t, wr', hp, h1, h2⟩ := step_pc h0
  rw [List.append_nil, List.append_nil] at h2
  subst h2
  have hd := ofK_dec h0
  have hc := cost_le (k : Int)
  have hl := congrArg List.length h1
  rw [List.length_append] at hl
  have hpf := pc_facts hp
  refine ⟨?_, by omega, fun h0k => ?_, fun hs => ?_⟩
  · rcases hp with ⟨x, rfl, rfl, _⟩ | ⟨x, _, rfl, rfl, _⟩ | ⟨rfl, rfl, _⟩ | ⟨rfl, rfl, _⟩ | ⟨rfl, rfl, _⟩ | ⟨rfl, rfl, _⟩ <;> simp
  · subst h0k
    have hcz : cost (((0 : Nat) : Int)) = 0 := rfl
    have := hpf.2.1 hcz
    rw [this] at hl
    rw [List.append_nil] at hd
    have hn : wr.length ≠ 0 := fun hz => by rw [hz] at hd; simp at hd; omega
    omega
  · rw [h1, isSigns_append, Bool.and_eq_true] at hs
    refine ⟨hs.2, ?_⟩
    rcases hp with ⟨x, rfl, rfl, _⟩ | ⟨x, _, rfl, rfl, _⟩ | ⟨rfl, rfl, _⟩ | ⟨rfl, rfl, _⟩ | ⟨rfl, rfl, _⟩ | ⟨rfl, rfl, _⟩
    · exact hs.1
    all_goals rfl
theorem mis_next {s0 s out wr lf : Sg} {ys : List Int} {k : Nat} {m : Int} (hq : ∀ r l, doS s0 (out ++ r) 0 (ys ++ l) = doS s r m l) (hst : ∀ r, stepR (k : Int) s (wr ++ r) = (lf, r, true)) : ∀ r l, doS s0 ((out ++ wr) ++ r) 0 ((ys ++ [(k : Int)]) ++ l) = doS lf r (m + cost (k : Int)) l := by
  intro r l
  rw [List.append_assoc, List.append_assoc, hq]
  show doS s (wr ++ r) m ((k : Int) :: l) = _
  rw [doS, hst, if_pos rfl]
def Mis (s0 : Sg) (er : Int) (out : Sg) (ys : List Int) (n : Int) : Prop := isSigns out = true ∧ ys.length ≤ 80 ∧ out.length ≤ 160 ∧ doS s0 out 0 ys = (n, true) ∧ 0 ≤ n ∧ n ≤ er
theorem doS_ex : ∀ {ys : List Int} {s r : Sg} {n m : Int}, doS s r n ys = (m, true) → Ex s r (m - n)
  | [], s, r, n, m, h => by
    unfold doS at h
    injection h with h1 h2
    rw [Bool.and_eq_true, decide_eq_true_eq, decide_eq_true_eq] at h2
    rw [h2.1, h2.2, h1, Int.sub_self]
    exact .nil
  | k :: ys, s, r, n, m, h => by
    unfold doS at h
    split at h
    · rename_i hs
      have h0 : stepR k s r = ((stepR k s r).1, (stepR k s r).2.1, true) := by rw [← hs]
      obtain ⟨t, wr, hp, h1, h2⟩ := step_pc h0
      have := Ex.cons hp (doS_ex h)
      rw [← h1, ← h2] at this
      rwa [show cost k + (m - (n + cost k)) = m - n by omega] at this
    · injection h with _ h2; cases h2
theorem cost_nat (k : Nat) : (k = 0 → cost (k : Int) = 0) ∧ (0 < k → cost (k : Int) = 1) := by
  unfold cost
  constructor
  · intro h; subst h; rfl
  · intro h; rw [if_neg (by omega)]


theorem word_ret (wa : Option Addr) (wc : Nat) (ws : List Int) (at_ : Int) (w : World) (hw : Row w wa ws.length wc 1 (ws.map (Value.int .u16))) (hwn : ws.length ≤ 2097152) (hwr : ∀ x ∈ ws, 0 ≤ x ∧ x ≤ 65535) (hat : 0 ≤ at_) : Ret Tryz.prog 110 [.slice wa ws.length wc, vint at_] w (fun v w' => ∃ x : Int, v = vint x ∧ 0 ≤ x ∧ x ≤ 65535 ∧ Ext w w') := by
 have hB := Below.refl w.heap.size w
 have hsz : w.heap.size ≤ w.heap.size := Nat.le_refl _
 refine ret_of_runs (args := [_, _]) Tryz.func110 rfl (Nat.le_of_ble_eq_true rfl) (by kernel_rfl) (r_seq (r_region' (l_q (qai rfl rfl) (l_nil (r_seq (r_seq (r_region' (l_q (qms rfl rfl) (l_q (q_len rfl Tryz.underlying77 rfl rfl) (l_q (q_eql rfl rfl rfl) (l_nil (r_cond rfl (fun hc1 => ?_) (fun hc1 => ?_)))))))))))))
 ·
  replace hc1 := dt hc1
  refine r_seq (r_region' (l_q (qai rfl rfl) (l_nil (r_ret_ (vs := [.int _ _]) rfl Tryz.func110 rfl (.nil _) ⟨rfl, trivial⟩ ?_))))
  exact ⟨0, rfl, by decide, by decide, Ext.of_below hB⟩
 ·
  replace hc1 := df hc1
  refine r_skip (r_seq ?_)
  have ha1 := Int.emod_nonneg at_ (show (ws.length : Int) ≠ 0 by omega)
  have ha2 := Int.emod_lt_of_pos at_ (show (0 : Int) < ws.length by omega)
  have hwx := hwr _ (getD_lt (l := ws) (d := 0) (i := (at_ % (ws.length : Int)).toNat) (by omega))
  refine r_region' (l_q (qms rfl rfl) (l_q (qmi rfl rfl) (l_q (qms rfl rfl) (l_q (q_len rfl Tryz.underlying77 rfl rfl) (l_q (q_rem rfl rfl (by omega) rfl) ?_)))))
  obtain ⟨b2, o2, ha2, hh2⟩ := (hw.below hB).at1 (at_ % (ws.length : Int)).toNat ((ws).getD (at_ % (ws.length : Int)).toNat 0) (getD_some (by omega))
  refine l_q (q_indexAddr1 Tryz.underlying77 Tryz.sizeOf111 rfl ha2 rfl (by omega) rfl) (l_q (q_load Tryz.isAgg111 rfl (hh2) rfl) (l_q (q_toInt Tryz.underlying111 Tryz.underlying3 rfl (by omega) rfl) (l_q (qai rfl rfl) (l_nil (r_forget [(4, .int _ _)] ⟨rfl, trivial⟩ (fun e3 => (r_ret_ (vs := [.int _ _]) rfl Tryz.func110 rfl (.nil _) ⟨rfl, trivial⟩ ?_)))))))
  exact ⟨_, rfl, hwx.1, hwx.2, Ext.of_below hB⟩
theorem misread_ret (s0 : Sg) (wa : Option Addr) (wc : Nat) (ws : List Int) (er0 : Int) (w : World) (hs0 : s0.length ≤ 40) (hsg0 : isSigns s0 = true) (hw : Row w wa ws.length wc 1 (ws.map (Value.int .u16))) (hwn : ws.length ≤ 2097152) (hwr : ∀ x ∈ ws, 0 ≤ x ∧ x ≤ 65535) (her0 : 0 ≤ er0 ∧ er0 ≤ 40) : Ret Tryz.prog 80 [vstr s0, .slice wa ws.length wc, vint er0] w (fun v w' => ∃ out ys n oa oc, v = .tuple ⟨[vstr out, .slice oa ys.length oc]⟩ ∧ w'.ownsRow w.heap.size 3 1 (.slice oa ys.length oc) ys.length (ys.map vint) ∧ Mis s0 er0 out ys n ∧ Ext w w') := by
 have hB := Below.refl w.heap.size w
 have hsz : w.heap.size ≤ w.heap.size := Nat.le_refl _
 refine ret_of_runs (args := [_, _, _]) Tryz.func80 rfl (Nat.le_of_ble_eq_true rfl) (by kernel_rfl) (r_seq (r_region' (l_q (q_assign (v := .string _) rfl rfl) (l_q (qas rfl rfl) (l_nil (r_seq (r_region' (l_q (q_assign (v := .string _) rfl rfl) (l_nil (r_seq (r_region' (l_q (qas rfl rfl) (l_nil (r_seq (r_seq (r_region' (l_q (qai rfl rfl) (l_nil (r_block ?_)))))))))))))))))))
 refine r_rounds (α := Nat × Sg × Sg × Int × (List Int) × (Option Addr) × Nat) (fun ⟨k, s, out, er, ys, oa, oc⟩ e wl => Knows e [(0, vstr s), (1, .slice wa ws.length wc), (2, vint er), (8, vstr out), (9, .slice oa ((ys).length) oc), (10, vint (k : Int))] ∧ (k + s.length + er.toNat ≤ s0.length + er0.toNat) ∧ (0 ≤ er ∧ er ≤ er0) ∧ (out.length ≤ 2 * k) ∧ (ys.length = k) ∧ (isSigns s = true ∧ isSigns out = true) ∧ (∀ r l, doS s0 (out ++ r) 0 (ys ++ l) = doS s r (er0 - er) l) ∧ (wl.ownsRow w.heap.size 3 1 (.slice oa ((ys).length) oc) ((ys).length) ((ys).map vint)) ∧ (w.heap.size ≤ wl.heap.size) ∧ (Below w.heap.size w wl)) (fun ⟨k, s, out, er, ys, oa, oc⟩ => s.length + er.toNat) (0, s0, [], er0, [], none, 0) ?_ ?_
 ·
  exact ⟨⟨rfl, rfl, rfl, rfl, rfl, rfl, trivial⟩, (by omega), (by omega), (Nat.zero_le _), rfl, ⟨hsg0, rfl⟩, (fun r l => by rw [Int.sub_self]; rfl), (World.ownsRow_nil _ _ _ _), hsz, hB⟩
 ·
  rintro ⟨k, s, out, er, ys, oa, oc⟩ el1 wl1 ⟨hkn, hkk, her, hol, hyl, hsg, hq, ho, hsz, hB⟩ ih1
  obtain ⟨e1, rfl⟩ := knows_env hkn
  refine r_seq (r_seq (r_region' (l_q (q_move (v := .string _) rfl rfl) (l_q (q_neq_str rfl rfl rfl) (l_nil (r_cond rfl (fun hc2 => ?_) (fun hc2 => ?_)))))))
  ·
   replace hc2 := df (nt hc2)
   have hsn : s ≠ [] := hc2
   have hsn1 : 1 ≤ s.length := List.length_pos_iff.2 hsn
   refine r_skip (r_seq (r_block (r_seq (r_region' (l_q (qai rfl rfl) (l_nil (r_seq (r_ifj (α := Nat) (fun kd e wl => Knows e [(0, vstr s), (1, .slice wa ws.length wc), (2, vint er), (8, vstr out), (9, .slice oa ((ys).length) oc), (10, vint (k : Int)), (11, vint (kd : Int))] ∧ (kd < 6 ∧ (0 < kd → 0 < er)) ∧ (wl.ownsRow w.heap.size 3 1 (.slice oa ((ys).length) oc) ((ys).length) ((ys).map vint)) ∧ (w.heap.size ≤ wl.heap.size) ∧ (Below w.heap.size w wl)) ?_ ?_))))))))
   ·
    rintro kd el3 wl3 ⟨hkn, hkd, ho, hsz, hB⟩
    obtain ⟨e3, rfl⟩ := knows_env hkn
    refine r_seq (r_region' (l_q (q_move (v := .string _) rfl rfl) (l_q (q_slice_str_hi Tryz.underlying9 rfl rfl (by omega) rfl) (l_q (q_build (v := .agg ⟨[vstr ((s).take 1), vstr [], vstr [46, 46], vstr [45], vstr [], vstr [32]]⟩) (fun w => by kernel_rfl) rfl) (l_q (qmi rfl rfl) (l_q (q_index_arr1 (v := vstr ((wroL s).getD kd [])) Tryz.underlying145 Tryz.isAgg9 Tryz.sizeOf9 rfl rfl (by omega) (wro_at hkd.1) rfl) (l_q (q_assign (v := .string _) rfl rfl) (l_nil (r_seq (r_region' (l_q (qmi rfl rfl) (l_q (q_move (v := .string _) rfl rfl) (l_q (q_move (v := .string _) rfl rfl) (l_o (o_call Tryz.call111 rfl (step_ret (kd : Int) s ((wroL s).getD kd []) _ (by omega) (Nat.le_trans wro_len (by decide))) rfl ?_)))))))))))))))
    rintro _ w4 ⟨rfl, hE4⟩
    replace hB := below_ext hB hE4 hsz
    replace ho := own_ext ho hE4
    replace hsz := Nat.le_trans hsz hE4.size
    refine l_q (q_move (v := .tuple _) rfl rfl) (l_q (q_extract (vs := [_, _, _]) (v := .string _) rfl rfl rfl) (l_q (q_extract (vs := [_, _, _]) (v := .string _) rfl rfl rfl) (l_q (q_extract (vs := [_, _, _]) (v := .bool _) rfl rfl rfl) (l_q (q_assign (v := .string _) rfl rfl) (l_q (q_assign (v := .string _) rfl rfl) (l_q (qab rfl rfl) (l_nil (r_forget [(0, .string _), (1, .slice _ _ _), (2, .int _ _), (8, .string _), (9, .slice _ _ _), (10, .int _ _), (11, .int _ _), (13, .string _), (14, .string _), (16, .bool _)] ⟨rfl, rfl, rfl, rfl, rfl, rfl, rfl, rfl, rfl, rfl, trivial⟩ (fun e5 => (r_seq ?_))))))))))
    refine r_ifj (α := Nat × Sg × Sg) (fun ⟨k2, wr, lf⟩ e wl => Knows e [(1, .slice wa ws.length wc), (2, vint er), (8, vstr out), (9, .slice oa ((ys).length) oc), (10, vint (k : Int)), (11, vint (k2 : Int)), (13, vstr wr), (14, vstr lf)] ∧ (k2 < 6 ∧ (0 < k2 → 0 < er)) ∧ (∀ r, stepR (k2 : Int) s (wr ++ r) = (lf, r, true)) ∧ (wl.ownsRow w.heap.size 3 1 (.slice oa ((ys).length) oc) ((ys).length) ((ys).map vint)) ∧ (w.heap.size ≤ wl.heap.size) ∧ (Below w.heap.size w wl)) ?_ ?_
    ·
     rintro ⟨k2, wr, lf⟩ el6 wl6 ⟨hkn, hk2, hst, ho, hsz, hB⟩
     obtain ⟨e6, rfl⟩ := knows_env hkn
     obtain ⟨hwl, hll, hl0, hsgn⟩ := mis_facts hst hk2.1
     obtain ⟨hs1, hs2⟩ := hsgn hsg.1
     obtain ⟨hcz, hco⟩ := cost_nat k2
     refine r_seq (r_region' (l_q (q_move (v := .string _) rfl rfl) (l_q (q_move (v := .string _) rfl rfl) (l_q (q_add_str rfl rfl (by omega) rfl) (l_q (q_move (v := .string _) rfl rfl) (l_q (qms rfl rfl) (l_q (qmi rfl rfl) (l_o (o_buildSlice (el := 3) (cs := [vint (k2 : Int)]) Tryz.underlying25 el3 (by decide) (by kernel_rfl) rfl (by decide) rfl ?_)))))))))
     intro b7 w7 hzl7 hzr7 _ hb7 hE7 ho7
     have hbs_b7 : w.heap.size ≤ b7 := Nat.le_trans hsz hzl7
     replace hB := below_ext hB hE7 hsz
     replace ho := own_ext ho hE7
     replace hsz := Nat.le_trans hsz hE7.size
     refine l_o (o_append_map (f := vint) (ys) ([(k2 : Int)]) Tryz.underlying25 el3 rfl rfl ho rfl (Row.of_owns ho7) (fun _ => rfl) (by (try simp only [List.length_append, List.length_cons, List.length_nil, List.length_take, List.length_drop, List.length_replicate]); omega) (by omega) rfl ?_)
     intro a8 c8 w8 hz8 ho8 hG8
     replace hB := below_own hB hG8 ho (by omega) hsz
     replace hsz := Nat.le_trans hsz hG8.size
     refine l_q (q_assign (v := .string _) rfl rfl) (l_q (q_assign (v := .string _) rfl rfl) (l_q (qas rfl rfl) (l_nil (r_forget [(0, .string _), (1, .slice _ _ _), (2, .int _ _), (8, .string _), (9, .slice _ _ _), (10, .int _ _), (11, .int _ _)] ⟨rfl, rfl, rfl, rfl, rfl, rfl, rfl, trivial⟩ (fun e9 => (r_region' (l_q (qmi rfl rfl) (l_q (qmi rfl rfl) (l_o (o_call Tryz.call112 rfl (cost_ret _ _) rfl ?_))))))))))
     rintro _ w10 ⟨rfl, rfl⟩
     refine l_q (q_sub rfl rfl (by omega) rfl) (l_q (qai rfl rfl) (l_nil (r_inBlock (r_region' (l_q (qmi rfl rfl) (l_q (q_add rfl rfl (by omega) rfl) (l_q (qai rfl rfl) (l_nil ?_))))))))
     exact ih1 (k + 1, lf, out ++ wr, er - cost (k2 : Int), ys ++ [(k2 : Int)], a8, c8) _ _ ⟨⟨rfl, rfl, rfl, rfl, rfl, (vint_eq (by omega)), trivial⟩, (by omega), (by omega), (by rw [List.length_append]; omega), (by rw [List.length_append, hyl]; rfl), ⟨hs1, by rw [isSigns_append, hsg.2, hs2]; rfl⟩, (fun r l => by rw [mis_next hq hst r l]; congr 1; omega), ho8, hsz, hB⟩ (by first | omega | (dsimp only; omega))
    · intro hj6
      refine r_seq (r_region' (l_q (qmb rfl rfl) (l_q (q_not rfl rfl) (l_nil (r_cond rfl (fun hc11 => ?_) (fun hc11 => ?_))))))
      ·
       replace hc11 := nt hc11
       refine r_draw ext_refl' ext_trans' [0, 1, 2, 3, 4, 5, 6] [] 4 (by kernel_rfl) (by kernel_rfl) ?_
       intro w12 _ hE12
       replace hB := below_ext hB hE12 hsz
       replace ho := own_ext ho hE12
       replace hsz := Nat.le_trans hsz hE12.size
       refine m_q rfl rfl (fun w' hC' => q_move (v := .string _) rfl rfl) (m_q rfl rfl (fun w' hC' => q_slice_str_hi Tryz.underlying9 rfl rfl (by omega) rfl) (m_q rfl rfl (fun w' hC' => q_move (v := .string _) rfl rfl) (m_q rfl rfl (fun w' hC' => q_slice_str_lo Tryz.underlying9 rfl rfl (by omega) rfl) (m_q rfl rfl (fun w' hC' => qai rfl rfl) (m_q rfl rfl (fun w' hC' => q_assign (v := .string _) rfl rfl) (m_q rfl rfl (fun w' hC' => q_assign (v := .string _) rfl rfl) (m_nil ?_)))))))
       exact hj6 (0, (s).take 1, (s).drop 1) _ _ ⟨⟨rfl, rfl, rfl, rfl, rfl, rfl, rfl, rfl, trivial⟩, (by omega), mis_no hsn, ho, hsz, hB⟩
      ·
       replace hc11 := nf hc11
       have hst0 := hc11
       refine r_skip ?_
       exact hj6 (kd, (wroL s).getD kd [], (stepR (kd : Int) s ((wroL s).getD kd [])).1) _ _ ⟨⟨rfl, rfl, rfl, rfl, rfl, rfl, rfl, rfl, trivial⟩, (by omega), (mis_yes hkd.1 hst0), ho, hsz, hB⟩
   · intro hj3
     refine r_seq (r_region' (l_q (qms rfl rfl) (l_q (qmi rfl rfl) (l_o (o_call Tryz.call110 rfl (word_ret _ _ ws _ _ (hw.below hB) hwn hwr (by omega)) rfl ?_)))))
     rintro _ w13 ⟨x13, rfl, hx0, hx1, hE13⟩
     replace hB := below_ext hB hE13 hsz
     replace ho := own_ext ho hE13
     replace hsz := Nat.le_trans hsz hE13.size
     refine l_q (qai rfl rfl) (l_nil (r_seq (r_region' (l_q (qmi rfl rfl) (l_q (q_rem rfl rfl (by omega) rfl) (l_q (q_eql rfl rfl rfl) (l_q (qmb rfl rfl) (l_part 27 rfl (fun hc14 => ?_) (fun hc14 => ?_)))))))))
     ·
      replace hc14 := dt hc14
      refine l_q (qmi rfl rfl) (l_q (q_gtr rfl rfl rfl) (l_q (q_pick_t (v := .bool _) rfl rfl rfl) (l_nil (r_forget [(0, .string _), (1, .slice _ _ _), (2, .int _ _), (8, .string _), (9, .slice _ _ _), (10, .int _ _), (11, .int _ _), (12, .int _ _), (30, .bool _)] ⟨rfl, rfl, rfl, rfl, rfl, rfl, rfl, rfl, rfl, trivial⟩ (fun e15 => (r_cond rfl (fun hc16 => ?_) (fun hc16 => ?_)))))))
      ·
       replace hc16 := dt hc16
       refine r_region' (l_q (qmi rfl rfl) (l_q (q_quo rfl rfl (by omega) rfl) (l_q (q_rem rfl rfl (by omega) rfl) (l_q (q_add rfl rfl (by omega) rfl) (l_q (qai rfl rfl) (l_nil ?_))))))
       exact hj3 ((1 + ((x13 / 4) % 5)).toNat) _ _ ⟨⟨rfl, rfl, rfl, rfl, rfl, rfl, (vint_eq (by omega)), trivial⟩, (by omega), ho, hsz, hB⟩
      ·
       replace hc16 := dlt hc16
       refine r_skip ?_
       exact hj3 0 _ _ ⟨⟨rfl, rfl, rfl, rfl, rfl, rfl, (vint_eq (by omega)), trivial⟩, (by omega), ho, hsz, hB⟩
     ·
      replace hc14 := df hc14
      refine l_q (q_skip rfl) (l_q (q_skip rfl) (l_q (q_pick_f (v := .bool _) rfl rfl rfl) (l_nil (r_forget [(0, .string _), (1, .slice _ _ _), (2, .int _ _), (8, .string _), (9, .slice _ _ _), (10, .int _ _), (11, .int _ _), (12, .int _ _), (30, .bool _)] ⟨rfl, rfl, rfl, rfl, rfl, rfl, rfl, rfl, rfl, trivial⟩ (fun e17 => (r_cond_f rfl (r_skip ?_)))))))
      exact hj3 0 _ _ ⟨⟨rfl, rfl, rfl, rfl, rfl, rfl, (vint_eq (by omega)), trivial⟩, (by omega), ho, hsz, hB⟩
  ·
   replace hc2 := dt (nf hc2)
   have hsn : s = [] := hc2
   refine r_exit rfl (r_seq (r_region' (l_q (q_move (v := .string _) rfl rfl) (l_q (qms rfl rfl) (l_q (q_assign (v := .string _) rfl rfl) (l_q (qas rfl rfl) (l_nil (r_forget [(6, .string _), (7, .slice _ _ _)] ⟨rfl, rfl, trivial⟩ (fun e18 => (r_ret_ (vs := [.string _, .slice _ _ _]) rfl Tryz.func80 rfl (.nil _) ⟨rfl, rfl, trivial⟩ ?_))))))))))
   have hqe := hq [] []
   rw [List.append_nil, List.append_nil, hsn] at hqe
   exact ⟨out, ys, er0 - er, oa, oc, rfl, ho, ⟨hsg.2, by omega, by omega, hqe, by omega, by omega⟩, Ext.of_below hB⟩
end Go.Proofs.YtekkdhpgcilpdaaGreat
