/- Contracts. -/
import Derived.Test.YtbikicakdkbcgacGreatF11
set_option linter.unusedVariables false
set_option linter.unusedSimpArgs false
namespace Go.Proofs.YtbikicakdkbcgacGreat
open Go Go.RowKit Go.Gv Go.Fl

theorem below_upd_any {B m : Nat} {w0 w w' : World} (hB : Below B w0 w) (hG : w.grownBy w' (some m)) (hm : B ≤ m) (hsz : B ≤ w.heap.size) : Below B w0 w' := hB.grown hG hsz (fun k hk => by cases hk; exact hm)
theorem fewest_ret : ∀ (n : Nat) (s r : Sg) (w : World) (m clock : Nat) (es : List MapEntry), s.length + r.length ≤ n → s.length ≤ 2097152 → r.length ≤ 2097152 → (∀ x ∈ r, x ≠ 33) → MapAt w m es clock → Memo es →
    Ret Tryz.prog 121 [.map (some m), .agg ⟨[vstr s, vstr r]⟩] w (FewP m s r w) := by
  intro n
  induction n with
  | zero => exact fun s r w m clock es hn hs hr h33 hM hMe => fewest_step m clock es s r w hs hr h33 hM hMe (fun s2 r2 w1 es1 c1 hlt => by omega)
  | succ n ih => exact fun s r w m clock es hn hs hr h33 hM hMe => fewest_step m clock es s r w hs hr h33 hM hMe (fun s2 r2 w1 es1 c1 hlt h1 h2 h3 h4 h5 => ih s2 r2 w1 m c1 es1 (by omega) h1 h2 h3 h4 h5)
theorem chk_two (a b : Sg) : chk [a, b] = signsFault a b := by
  unfold chk signsFault
  by_cases ha : a.length ≤ 40 <;> by_cases hb : b.length ≤ 40
  · have h1 : [a, b].all (fun s => decide ((s.length : Int) ≤ 40)) = true := by simp; omega
    have h2 : [a, b].all isSigns = (isSigns a && isSigns b) := by simp
    rw [if_pos h1, h2, if_neg (show ¬ (40 < a.length ∨ 40 < b.length) by omega)]
  all_goals
    have h1 : ¬ [a, b].all (fun s => decide ((s.length : Int) ≤ 40)) = true := by simp; omega
    rw [if_neg h1, if_pos (show 40 < a.length ∨ 40 < b.length by omega)]
theorem signs33 {s : Sg} (h : isSigns s = true) : ∀ x ∈ s, x ≠ 33 := by
  intro x hx he
  have := List.all_eq_true.1 h x hx
  subst he
  simp at this
theorem sf_zero {a b : Sg} (h : signsFault a b = 0) : (∀ x ∈ a, x ≠ 33) ∧ (∀ x ∈ b, x ≠ 33) ∧ a.length ≤ 40 ∧ b.length ≤ 40 ∧ isSigns a = true ∧ isSigns b = true := by
  unfold signsFault at h
  split at h
  · cases h
  · split at h
    · rename_i h1 h2
      rw [Bool.and_eq_true] at h2
      exact ⟨signs33 h2.1, signs33 h2.2, by omega, by omega, h2⟩
    · cases h
def errs (s r : Sg) : Int × Int := if ¬ signsFault s r = 0 then (0, signsFault s r) else if 1048576 ≤ fe 1048576 s r then (0, 11) else (fe 1048576 s r, 0)


theorem errors_ret (s r : Sg) (w : World) (hs : s.length ≤ 2097152) (hr : r.length ≤ 2097152) : Ret Tryz.prog 82 [vstr s, vstr r] w (fun v w' => v = .tuple ⟨[vint ((errs s r).1), vint ((errs s r).2)]⟩ ∧ Ext w w') := by
 have hB := Below.refl w.heap.size w
 have hsz : w.heap.size ≤ w.heap.size := Nat.le_refl _
 refine ret_of_runs (args := [_, _]) Tryz.func82 rfl (Nat.le_of_ble_eq_true rfl) (by kernel_rfl) (r_seq (r_region' (l_q (qai rfl rfl) (l_q (qai rfl rfl) (l_nil (r_seq (r_seq (r_region' (l_q (q_move (v := .string _) rfl rfl) (l_q (q_move (v := .string _) rfl rfl) (l_o (o_buildSlice (el := 9) (cs := [vstr s, vstr r]) Tryz.underlying28 el9 (by decide) (by kernel_rfl) rfl (by decide) rfl ?_))))))))))))
 intro b1 w1 hzl1 hzr1 _ hb1 hE1 ho1
 have hbs_b1 : w.heap.size ≤ b1 := Nat.le_trans hsz hzl1
 replace hB := below_ext hB hE1 hsz
 replace hsz := Nat.le_trans hsz hE1.size
 refine l_o (o_call Tryz.call120 rfl (checkSigns_ret _ _ [s, r] _ (Row.of_owns ho1) (by simp) (by simp; exact ⟨hs, hr⟩)) rfl ?_)
 rintro _ w2 ⟨rfl, hE2⟩
 replace hB := below_ext hB hE2 hsz
 replace hsz := Nat.le_trans hsz hE2.size
 refine l_q (qai rfl rfl) (l_nil (r_seq (r_region' (l_q (qmi rfl rfl) (l_q (q_neq rfl rfl rfl) (l_nil (r_cond rfl (fun hc3 => ?_) (fun hc3 => ?_))))))))
 ·
  replace hc3 := df (nt hc3)
  have hz : ¬ signsFault s r = 0 := by rw [← chk_two]; exact hc3
  refine r_seq (r_region' (l_q (qmi rfl rfl) (l_q (qai rfl rfl) (l_q (qai rfl rfl) (l_nil (r_forget [(4, .int _ _), (5, .int _ _)] ⟨rfl, rfl, trivial⟩ (fun e4 => (r_ret_ (vs := [.int _ _, .int _ _]) rfl Tryz.func82 rfl (.nil _) ⟨rfl, rfl, trivial⟩ ?_))))))))
  exact ⟨tup2 (vint_eq (by rw [errs, if_pos hz])) (vint_eq (by rw [errs, if_pos hz, chk_two])), Ext.of_below hB⟩
 ·
  replace hc3 := dt (nf hc3)
  have hz : signsFault s r = 0 := by rw [← chk_two]; exact hc3
  refine r_skip (r_seq (r_region' (l_o (o_makeMap rfl ?_))))
  intro m w5 hml hmr hM hE5
  have hbs_m : w.heap.size ≤ m := Nat.le_trans hsz hml
  have hMemo := memo_nil
  replace hB := below_ext hB hE5 hsz
  replace hsz := Nat.le_trans hsz hE5.size
  refine l_q (q_move (v := .string _) rfl rfl) (l_q (q_move (v := .string _) rfl rfl) (l_q (q_build (v := .agg ⟨[vstr s, vstr r]⟩) (fun w => by kernel_rfl) rfl) (l_o (o_call Tryz.call121 rfl (fewest_ret _ s r _ m _ _ (Nat.le_refl _) hs hr (sf_zero hz).2.1 hM hMemo) rfl ?_))))
  rintro _ w6 ⟨rfl, esc6, ckc6, hMc6, hMm6, hGc6⟩
  replace hB := below_upd_any hB hGc6 hbs_m hsz
  replace hsz : w.heap.size ≤ w6.heap.size := Nat.le_trans hsz hGc6.size
  have hM := hMc6
  have hMemo := hMm6
  refine l_q (qai rfl rfl) (l_nil (r_forget [(7, .int _ _)] ⟨rfl, trivial⟩ (fun e7 => (r_seq (r_seq (r_region' (l_q (qmi rfl rfl) (l_q (q_geq rfl rfl rfl) (l_nil (r_cond rfl (fun hc8 => ?_) (fun hc8 => ?_)))))))))))
  ·
   replace hc8 := dt hc8
   have hf := hc8
   refine r_seq (r_region' (l_q (qai rfl rfl) (l_q (qai rfl rfl) (l_nil (r_ret_ (vs := [.int _ _, .int _ _]) rfl Tryz.func82 rfl (.nil _) ⟨rfl, rfl, trivial⟩ ?_)))))
   exact ⟨tup2 (vint_eq (by rw [errs, if_neg (fun h => h hz), if_pos hf])) (vint_eq (by rw [errs, if_neg (fun h => h hz), if_pos hf])), Ext.of_below hB⟩
  ·
   replace hc8 := dle hc8
   have hf := hc8
   refine r_skip (r_seq (r_region' (l_q (qmi rfl rfl) (l_q (qai rfl rfl) (l_q (qai rfl rfl) (l_nil (r_ret_ (vs := [.int _ _, .int _ _]) rfl Tryz.func82 rfl (.nil _) ⟨rfl, rfl, trivial⟩ ?_)))))))
   exact ⟨tup2 (vint_eq (by rw [errs, if_neg (fun h => h hz), if_neg (by omega)])) (vint_eq (by rw [errs, if_neg (fun h => h hz), if_neg (by omega)])), Ext.of_below hB⟩
end Go.Proofs.YtbikicakdkbcgacGreat
