/- Contracts. -/
import Derived.Test.YtekkdhpgcilpdaaGreatM24
set_option linter.unusedVariables false
set_option linter.unusedSimpArgs false
namespace Go.Proofs.YtekkdhpgcilpdaaGreat
open Go Go.RowKit Go.Gv Go.Fl
theorem rleave6_ret (ka : Option Addr) (kc : Nat) (co : List Sg) (er : Int) (sa : Option Addr) (sc : Nat) (se : List Int) (ja : Option Addr) (jc : Nat) (sl : List SN) (ra : Option Addr) (rc : Nat) (rl : List RC) (w : World) (hlg : LgAt w ka kc co sa sc se ja jc sl ra rc rl) (hbg : LgBig co er se sl rl) (hok : faultM (lg co er se sl rl) = 0) (hJ5 : sl.length ≤ 5) (hR4 : rl.length ≤ 4) : Ret Tryz.prog 33 [.agg ⟨[.slice ka co.length kc, vint er, .slice sa se.length sc, .slice ja sl.length jc, .slice ra rl.length rc]⟩] w (fun v w' => ∃ ra0 rc0, v = .slice ra0 (leaveM (lg co er se sl rl)).length rc0 ∧ Row w' ra0 (leaveM (lg co er se sl rl)).length rc0 1 ((leaveM (lg co er se sl rl)).map vint) ∧ Ext w w') := by
 obtain ⟨⟨hcn, hcl⟩, hen, hsn, ⟨hjn, hjl⟩, hrn, hrl⟩ := id hbg
 obtain ⟨N, hN, hN8, hNn⟩ := two_pow8 (show rl.length ≤ 8 by omega)
 have hN0 : 0 < N := by rw [hNn]; exact Nat.two_pow_pos _
 obtain ⟨A, hA⟩ : ∃ A, A = N - 1 := ⟨_, rfl⟩
 have hAn : A = 2 ^ rl.length - 1 := by rw [hA, hNn]
 have hB := Below.refl w.heap.size w
 have hsz : w.heap.size ≤ w.heap.size := Nat.le_refl _
 refine ret_of_runs (args := [_]) Tryz.func33 rfl (Nat.le_of_ble_eq_true rfl) (by kernel_rfl) (r_seq (r_region' (l_o (o_box rfl rfl rfl ?_))))
 intro b1 w1 hzl1 hzr1 _ hb1 hE1
 have hbs_b1 : w.heap.size ≤ b1 := Nat.le_trans hsz hzl1
 replace hB := below_ext hB hE1 hsz
 replace hsz := Nat.le_trans hsz hE1.size
 refine l_q (qas rfl rfl) (l_nil (r_seq (r_region' (l_q (q_fieldAddr (o' := 4) rfl fld29_4 rfl) (l_q (q_load Tryz.isAgg27 rfl ((hb1.has (o := 4) rfl)) rfl) (l_q (q_len rfl Tryz.underlying27 rfl rfl) (l_q (q_toUint Tryz.underlying3 Tryz.underlying64 rfl (by omega) rfl) (l_q (q_shl rfl rfl (by omega) (by omega) rfl) (l_q (q_sub rfl rfl (by omega) rfl) (l_q (qai rfl rfl) (l_nil (r_seq (r_forget [(0, .agg _), (1, .pointer _), (2, .slice _ _ _), (3, vint (A : Int)), (7, .pointer _), (8, .slice _ _ _), (9, .int _ _), (10, .int _ _), (11, .int _ _), (12, .int _ _)] ⟨rfl, rfl, rfl, vint_eq (by omega), rfl, rfl, rfl, rfl, rfl, rfl, trivial⟩ (fun e2 => (r_region' (l_q (qmi rfl rfl) (l_o (o_call Tryz.call41 rfl (bits6_ret A _ (by omega)) rfl ?_))))))))))))))))))
 rintro _ w3 ⟨a3_0, c3_0, rfl, ho3_0, hE3⟩
 replace ho3_0 := own_mono ho3_0 (show w.heap.size ≤ _ by omega)
 replace hB := below_ext hB hE3 hsz
 replace hb1 := hb1.ext hE3
 replace hsz := Nat.le_trans hsz hE3.size
 refine l_q (qas rfl rfl) (l_nil (r_forget [(1, .pointer _), (3, .int _ _), (4, .slice _ _ _)] ⟨rfl, rfl, rfl, trivial⟩ (fun e4 => (r_seq (r_seq (r_region' (l_q (qai rfl rfl) (l_nil (r_block (r_rounds (α := Nat × (Option Addr) × Nat × (List Int)) (fun ⟨k, ba, bc, B⟩ e wl => Knows e [(1, ptr b1 0), (3, vint (A : Int)), (4, .slice ba ((B).length) bc), (5, vint (k : Int))] ∧ (k ≤ A) ∧ (B = leaveN (leavQ (canB (lg co er se sl rl)) sl.length rl.length) rl.length k) ∧ (B.length ≤ 20) ∧ (Row wl ba ((B).length) bc 1 ((B).map vint)) ∧ (Blk wl b1 [.slice ka co.length kc, vint er, .slice sa se.length sc, .slice ja sl.length jc, .slice ra rl.length rc]) ∧ (w.heap.size ≤ wl.heap.size) ∧ (Below w.heap.size w wl)) (fun ⟨k, ba, bc, B⟩ => A - k) (0, a3_0, c3_0, bitsL A) ?_ ?_))))))))))
 ·
  exact ⟨⟨rfl, rfl, rfl, rfl, trivial⟩, (Nat.zero_le _), (by rw [leaveN, hAn]), (bits_len _), (Row.of_owns ho3_0), hb1, hsz, hB⟩
 ·
  rintro ⟨k, ba, bc, B⟩ el5 wl5 ⟨hkn, hk, hB2, hBx, hBw, hb1, hsz, hB⟩ ih5
  obtain ⟨e5, rfl⟩ := knows_env hkn
  refine r_seq (r_seq (r_region' (l_q (qmi rfl rfl) (l_q (qmi rfl rfl) (l_q (q_lss rfl rfl rfl) (l_nil (r_cond rfl (fun hc6 => ?_) (fun hc6 => ?_))))))))
  ·
   replace hc6 := dt hc6
   have hkA : k < A := by omega
   refine r_skip (r_seq (r_block (r_seq (r_region' (l_q (qmi rfl rfl) (l_o (o_call Tryz.call41 rfl (bits6_ret k _ (by omega)) rfl ?_)))))))
   rintro _ w7 ⟨a7_0, c7_0, rfl, ho7_0, hE7⟩
   replace ho7_0 := own_mono ho7_0 (show w.heap.size ≤ _ by omega)
   replace hB := below_ext hB hE7 hsz
   replace hb1 := hb1.ext hE7
   replace hBw := hBw.ext hE7
   replace hsz := Nat.le_trans hsz hE7.size
   refine l_q (qas rfl rfl) (l_nil (r_seq (r_region' (l_q (qms rfl rfl) (l_q (qms rfl rfl) (l_o (o_call Tryz.call43 rfl (short6_ret _ _ (bitsL k) _ _ B _ (Row.of_owns ho7_0) (Nat.le_trans (bits_len _) (by decide)) hBw (by omega)) rfl ?_)))))))
   rintro _ w8 ⟨rfl, hE8⟩
   replace hB := below_ext hB hE8 hsz
   replace hb1 := hb1.ext hE8
   replace hBw := hBw.ext hE8
   replace ho7_0 := own_ext ho7_0 hE8
   replace hsz := Nat.le_trans hsz hE8.size
   refine l_q (qmb rfl rfl) (l_part 25 rfl (fun hc9 => ?_) (fun hc9 => ?_))
   ·
    have g25 := hc9
    refine l_q (q_load_agg (n := 5) Tryz.isAgg29 Tryz.sizeOf29 rfl ((hb1.cells' (cs' := [_, _, _, _, _]) 0 5 rfl)) rfl rfl) (l_q (qmi rfl rfl) (l_o (o_call Tryz.call76 rfl (all6_ret ka kc co er sa sc se ja jc sl ra rc rl k _ (hlg.below hB) hbg hok (by omega) hJ5 hR4) rfl ?_)))
    rintro _ w10 ⟨da10, dc10, D10, rfl, hD10, hDr10, hDm, hE10⟩
    replace hB := below_ext hB hE10 hsz
    replace hb1 := hb1.ext hE10
    replace hBw := hBw.ext hE10
    replace ho7_0 := own_ext ho7_0 hE10
    replace hsz := Nat.le_trans hsz hE10.size
    have hDc := svA_card hDm hJ5 hR4
    refine l_q (q_len rfl Tryz.underlying47 rfl rfl) (l_q (q_gtr rfl rfl rfl) (l_q (q_pick_t (v := .bool _) rfl rfl rfl) (l_nil (r_forget [(1, .pointer _), (3, .int _ _), (4, .slice _ _ _), (5, .int _ _), (6, .slice _ _ _), (31, .bool _)] ⟨rfl, rfl, rfl, rfl, rfl, rfl, trivial⟩ (fun e11 => (r_cond rfl (fun hc12 => ?_) (fun hc12 => ?_)))))))
    ·
     replace hc12 := dt hc12
     have g31 := hc12
     refine r_region' (l_q (qms rfl rfl) (l_q (qas rfl rfl) (l_nil (r_inBlock (r_region' (l_q (qmi rfl rfl) (l_q (q_add rfl rfl (by omega) rfl) (l_q (qai rfl rfl) (l_nil ?_)))))))))
     exact ih5 (k + 1, a7_0, c7_0, bitsL k) _ _ ⟨⟨rfl, rfl, rfl, (vint_eq (by omega)), trivial⟩, (by omega), (by rw [leaveN_y (by rw [← hB2]; exact g25) (by rw [← leavQ_bits (by omega) (by omega) hDm]; exact decide_eq_true (by omega))]), (by first | exact bits_len _ | exact hBx), (Row.of_owns ho7_0), hb1, hsz, hB⟩ (by first | omega | (dsimp only; omega))
    ·
     replace hc12 := dlt hc12
     have g31 := hc12
     refine r_skip (r_inBlock (r_region' (l_q (qmi rfl rfl) (l_q (q_add rfl rfl (by omega) rfl) (l_q (qai rfl rfl) (l_nil ?_))))))
     exact ih5 (k + 1, ba, bc, B) _ _ ⟨⟨rfl, rfl, rfl, (vint_eq (by omega)), trivial⟩, (by omega), (by rw [leaveN_2 (by rw [← leavQ_bits (by omega) (by omega) hDm]; exact decide_eq_false (by omega))]; exact hB2), (by first | exact bits_len _ | exact hBx), hBw, hb1, hsz, hB⟩ (by first | omega | (dsimp only; omega))
   ·
    have g25 := hc9
    refine l_q (q_skip rfl) (l_q (q_skip rfl) (l_q (q_skip rfl) (l_q (q_skip rfl) (l_q (q_skip rfl) (l_q (q_pick_f (v := .bool _) rfl rfl rfl) (l_nil (r_forget [(1, .pointer _), (3, .int _ _), (4, .slice _ _ _), (5, .int _ _), (6, .slice _ _ _), (31, .bool _)] ⟨rfl, rfl, rfl, rfl, rfl, rfl, trivial⟩ (fun e13 => (r_cond_f rfl (r_skip (r_inBlock (r_region' (l_q (qmi rfl rfl) (l_q (q_add rfl rfl (by omega) rfl) (l_q (qai rfl rfl) (l_nil ?_))))))))))))))))
    exact ih5 (k + 1, ba, bc, B) _ _ ⟨⟨rfl, rfl, rfl, (vint_eq (by omega)), trivial⟩, (by omega), (by rw [leaveN_1 (by rw [← hB2]; exact g25)]; exact hB2), (by first | exact bits_len _ | exact hBx), hBw, hb1, hsz, hB⟩ (by first | omega | (dsimp only; omega))
  ·
   replace hc6 := dlt hc6
   refine r_exit rfl (r_seq (r_region' (l_q (qms rfl rfl) (l_q (qas rfl rfl) (l_nil (r_ret_ (vs := [.slice _ _ _]) rfl Tryz.func33 rfl (.nil _) ⟨rfl, trivial⟩ ?_))))))
   have hBe : B = leaveM (lg co er se sl rl) := by rw [hB2, show k = 2 ^ rl.length - 1 by omega]; exact leave_ref (by omega)
   subst hBe
   exact ⟨ba, bc, rfl, hBw, Ext.of_below hB⟩
end Go.Proofs.YtekkdhpgcilpdaaGreat
