/- Contracts. -/
import Derived.Test.YtekkdhpgcilpdaaGreatM23
set_option linter.unusedVariables false
set_option linter.unusedSimpArgs false
namespace Go.Proofs.YtekkdhpgcilpdaaGreat
open Go Go.RowKit Go.Gv Go.Fl
/-! ### The reference: assignments -/
section
variable {can : Nat → Int → Bool} {m : Nat} {out : Nat → Bool}
end
section
variable {l : Lg} {k c : Nat} {p : List Int} {out : Nat → Bool} {b : Int} {r : RC}
end
section
variable {co : List Sg} {er : Int} {se : List Int} {sl : List SN} {rl : List RC} {l : Lg} {xs : List Int} {k n ot i r : Nat} {A M D : List SV} {out : Nat → Bool}
theorem fals_take (hk : k < xs.length) (h : xs.getD k 0 = -1) : fals (xs.take (k + 1)) = fals (xs.take k) + 1 := by rw [take_succ_getD hk, fals_snoc, h]; rfl
theorem fals_keep (hk : k < xs.length) (h : ¬ xs.getD k 0 = -1) : fals (xs.take (k + 1)) = fals (xs.take k) := by rw [take_succ_getD hk, fals_snoc]; unfold costB; rw [if_neg h]; omega
theorem verd_some (h0 : faultM l = 0) (h : asgM l noB ≠ []) : verdW l = ((List.range l.R.length).map (verdV l), 0) := by
  by_cases hv : (verdW l).2 = 0
  · exact (vd_ok h0 hv).1
  · have h2 := (vd_err h0 hv).2
    rw [(asg_some h0 h).1] at h2
    have h3 : (0 : Int) = 11 := congrArg Prod.snd h2
    omega
end


theorem falses6_ret (xa : Option Addr) (xc : Nat) (xs : List Int) (w : World) (hx : Row w xa xs.length xc 1 (xs.map vint)) (hxn : xs.length ≤ 2097152) : Ret Tryz.prog 51 [.slice xa xs.length xc] w (fun v w' => v = vint (fals xs) ∧ Ext w w') := by
 have hB := Below.refl w.heap.size w
 have hsz : w.heap.size ≤ w.heap.size := Nat.le_refl _
 refine ret_of_runs (args := [_]) Tryz.func51 rfl (Nat.le_of_ble_eq_true rfl) (by kernel_rfl) (r_seq (r_region' (l_q (qai rfl rfl) (l_nil (r_seq (r_region' (l_q (qai rfl rfl) (l_nil (r_seq (r_seq (r_region' (l_q (qai rfl rfl) (l_nil (r_block (r_rounds (α := Nat × Int) (fun ⟨k, n⟩ e wl => Knows e [(0, .slice xa xs.length xc), (3, vint n), (4, vint (k : Int))] ∧ (k ≤ xs.length) ∧ (n = fals (xs.take k)) ∧ (0 ≤ n ∧ n ≤ k) ∧ (w.heap.size ≤ wl.heap.size) ∧ (Below w.heap.size w wl)) (fun ⟨k, n⟩ => xs.length - k) (0, 0) ?_ ?_)))))))))))))))
 ·
  exact ⟨⟨rfl, rfl, rfl, trivial⟩, (Nat.zero_le _), rfl, (by omega), hsz, hB⟩
 ·
  rintro ⟨k, n⟩ el1 wl1 ⟨hkn, hk, hn, hnr, hsz, hB⟩ ih1
  obtain ⟨e1, rfl⟩ := knows_env hkn
  refine r_seq (r_seq (r_region' (l_q (qmi rfl rfl) (l_q (qms rfl rfl) (l_q (q_len rfl Tryz.underlying25 rfl rfl) (l_q (q_lss rfl rfl rfl) (l_nil (r_cond rfl (fun hc2 => ?_) (fun hc2 => ?_)))))))))
  ·
   replace hc2 := dt hc2
   have hkx : k < xs.length := by omega
   refine r_skip (r_seq (r_block (r_seq (r_region' (l_q (qms rfl rfl) (l_q (qmi rfl rfl) ?_))))))
   obtain ⟨b3, o3, ha3, hh3⟩ := (hx.below hB).at1 k ((xs).getD k 0) (getD_some (by omega))
   refine l_q (q_indexAddr1 Tryz.underlying25 Tryz.sizeOf3 rfl ha3 rfl (by omega) rfl) (l_q (q_load Tryz.isAgg3 rfl (hh3) rfl) (l_q (q_eql rfl rfl rfl) (l_nil (r_cond rfl (fun hc4 => ?_) (fun hc4 => ?_)))))
   ·
    replace hc4 := dt hc4
    have g15 := hc4
    refine r_region' (l_q (qmi rfl rfl) (l_q (q_add rfl rfl (by omega) rfl) (l_q (qai rfl rfl) (l_nil (r_forget [(0, .slice _ _ _), (3, .int _ _), (4, .int _ _)] ⟨rfl, rfl, rfl, trivial⟩ (fun e5 => (r_inBlock (r_region' (l_q (qmi rfl rfl) (l_q (q_add rfl rfl (by omega) rfl) (l_q (qai rfl rfl) (l_nil ?_))))))))))))
    exact ih1 (k + 1, n + 1) _ _ ⟨⟨rfl, rfl, (vint_eq (by omega)), trivial⟩, (by omega), (by rw [fals_take hkx g15, hn]), (by omega), hsz, hB⟩ (by first | omega | (dsimp only; omega))
   ·
    replace hc4 := df hc4
    have g15 := hc4
    refine r_skip (r_inBlock (r_region' (l_q (qmi rfl rfl) (l_q (q_add rfl rfl (by omega) rfl) (l_q (qai rfl rfl) (l_nil (r_forget [(0, .slice _ _ _), (3, .int _ _), (4, .int _ _)] ⟨rfl, rfl, rfl, trivial⟩ (fun e6 => ?_))))))))
    exact ih1 (k + 1, n) _ _ ⟨⟨rfl, rfl, (vint_eq (by omega)), trivial⟩, (by omega), (by rw [fals_keep hkx g15, hn]), (by omega), hsz, hB⟩ (by first | omega | (dsimp only; omega))
  ·
   replace hc2 := dlt hc2
   refine r_exit rfl (r_seq (r_region' (l_q (qmi rfl rfl) (l_q (qai rfl rfl) (l_nil (r_ret_ (vs := [.int _ _]) rfl Tryz.func51 rfl (.nil _) ⟨rfl, trivial⟩ ?_))))))
   exact ⟨vint_eq (by rw [hn, List.take_of_length_le (by omega)]), Ext.of_below hB⟩
end Go.Proofs.YtekkdhpgcilpdaaGreat
set_option linter.unusedVariables false
set_option linter.unusedSimpArgs false
namespace Go.Proofs.YtekkdhpgcilpdaaGreat
open Go Go.RowKit Go.Gv Go.Fl
end Go.Proofs.YtekkdhpgcilpdaaGreat
