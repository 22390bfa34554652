/- Contracts. -/
import Derived.Test.YtbikicakdkbcgacGreatF7
set_option linter.unusedVariables false
set_option linter.unusedSimpArgs false
namespace Go.Proofs.YtbikicakdkbcgacGreat
open Go Go.RowKit Go.Gv Go.Fl

def minOf (xs : List Int) : Int := xs.foldl min (xs.getD 0 0)
theorem min_one {xs : List Int} (h : 0 < xs.length) : (xs.take 1).foldl min (xs.getD 0 0) = xs.getD 0 0 := by
  cases xs with
  | nil => cases h
  | cons x l => show min x x = x; omega
theorem min_step {xs : List Int} {k : Nat} (h : k < xs.length) : min ((xs.take k).foldl min (xs.getD 0 0)) (xs.getD k 0) = (xs.take (k + 1)).foldl min (xs.getD 0 0) := by
  rw [take_succ_getD h, List.foldl_append]; rfl
theorem min_two (x y : Int) : minOf [x, y] = min x y := by show min (min x x) y = min x y; omega
theorem equal_ret (xa : Option Addr) (xc : Nat) (xs : List Int) (ya : Option Addr) (yc : Nat) (ys : List Int) (w : World) (hx : Row w xa xs.length xc 1 (xs.map vint)) (hxn : xs.length ≤ 2097152) (hy : Row w ya ys.length yc 1 (ys.map vint)) (hyn : ys.length ≤ 2097152) : Ret Tryz.prog 56 [.slice xa xs.length xc, .slice ya ys.length yc] w (fun v w' => v = .bool (decide (xs = ys)) ∧ Ext w w') := by
 have hB := Below.refl w.heap.size w
 have hsz : w.heap.size ≤ w.heap.size := Nat.le_refl _
 refine ret_of_runs (args := [_, _]) Tryz.func56 rfl (Nat.le_of_ble_eq_true rfl) (by kernel_rfl) (r_seq (r_region' (l_q (qab rfl rfl) (l_nil (r_seq (r_seq (r_region' (l_q (qms rfl rfl) (l_q (q_len rfl Tryz.underlying31 rfl rfl) (l_q (qms rfl rfl) (l_q (q_len rfl Tryz.underlying31 rfl rfl) (l_q (q_neq rfl rfl rfl) (l_nil (r_cond rfl (fun hc1 => ?_) (fun hc1 => ?_)))))))))))))))
 ·
  replace hc1 := df (nt hc1)
  refine r_seq (r_region' (l_q (qab rfl rfl) (l_nil (r_ret_ (vs := [.bool _]) rfl Tryz.func56 rfl (.nil _) ⟨rfl, trivial⟩ ?_))))
  exact ⟨vbool_eq (by symm; rw [decide_eq_false_iff_not]; intro h; subst h; omega), Ext.of_below hB⟩
 ·
  replace hc1 := dt (nf hc1)
  refine r_skip (r_seq (r_seq (r_region' (l_q (qms rfl rfl) (l_q (q_len rfl Tryz.underlying31 rfl rfl) (l_q (qmi rfl rfl) (l_nil (r_block (r_rounds (α := Nat) (fun k e wl => Knows e [(0, .slice xa xs.length xc), (1, .slice ya ys.length yc), (12, vint (xs.length : Int)), (13, vint (k : Int))] ∧ (k ≤ xs.length) ∧ (∀ j, j < k → xs.getD j 0 = ys.getD j 0) ∧ (xs.length = ys.length) ∧ (w.heap.size ≤ wl.heap.size) ∧ (Below w.heap.size w wl)) (fun k => xs.length - k) 0 ?_ ?_)))))))))
  ·
   exact ⟨⟨rfl, rfl, rfl, rfl, trivial⟩, (Nat.zero_le _), (fun i hi => absurd hi (Nat.not_lt_zero _)), (by omega), hsz, hB⟩
  ·
   rintro k el2 wl2 ⟨hkn, hkk, hq, hlen, hsz, hB⟩ ih2
   obtain ⟨e2, rfl⟩ := knows_env hkn
   refine r_seq (r_region' (l_q (q_lss rfl rfl rfl) (l_nil (r_seq (r_cond rfl (fun hc3 => ?_) (fun hc3 => ?_))))))
   ·
    replace hc3 := dt hc3
    refine r_skip (r_seq (r_block (r_seq (r_region' (l_q (qmi rfl rfl) (l_q (qai rfl rfl) (l_nil (r_seq (r_draw ext_refl' ext_trans' [0, 1, 2, 3, 4, 5, 6, 7, 8] [] 2 (by kernel_rfl) (by kernel_rfl) ?_)))))))))
    intro w4 _ hE4
    replace hB := below_ext hB hE4 hsz
    replace hsz := Nat.le_trans hsz hE4.size
    refine m_q rfl rfl (fun w' hC' => qms rfl rfl) (m_q rfl rfl (fun w' hC' => qmi rfl rfl) ?_)
    obtain ⟨b5, o5, ha5, hh5⟩ := (hx.below hB).at1 k ((xs).getD k 0) (getD_some (by omega))
    refine m_q rfl rfl (fun w' hC' => q_indexAddr1 Tryz.underlying31 Tryz.sizeOf3 rfl ha5 rfl (by omega) rfl) (m_q rfl rfl (fun w' hC' => q_load Tryz.isAgg3 rfl ((hh5.ext hC')) rfl) (m_q rfl rfl (fun w' hC' => qms rfl rfl) (m_q rfl rfl (fun w' hC' => qmi rfl rfl) ?_)))
    obtain ⟨b6, o6, ha6, hh6⟩ := (hy.below hB).at1 k ((ys).getD k 0) (getD_some (by omega))
    refine m_q rfl rfl (fun w' hC' => q_indexAddr1 Tryz.underlying31 Tryz.sizeOf3 rfl ha6 rfl (by omega) rfl) (m_q rfl rfl (fun w' hC' => q_load Tryz.isAgg3 rfl ((hh6.ext hC')) rfl) (m_q rfl rfl (fun w' hC' => q_neq rfl rfl rfl) (m_nil (r_forget [(0, .slice _ _ _), (1, .slice _ _ _), (12, .int _ _), (13, .int _ _), (24, .bool _)] ⟨rfl, rfl, rfl, rfl, rfl, trivial⟩ (fun e7 => (r_cond rfl (fun hc8 => ?_) (fun hc8 => ?_)))))))
    ·
     replace hc8 := df (nt hc8)
     refine r_seq (r_region' (l_q (qab rfl rfl) (l_nil (r_ret_ (vs := [.bool _]) rfl Tryz.func56 rfl (.nil _) ⟨rfl, trivial⟩ ?_))))
     exact ⟨vbool_eq (by symm; rw [decide_eq_false_iff_not]; intro h; subst h; simp_all), Ext.of_below hB⟩
    ·
     replace hc8 := dt (nf hc8)
     refine r_skip (r_inBlock (r_region' (l_q (q_add rfl rfl (by omega) rfl) (l_q (qmi rfl rfl) (l_nil ?_)))))
     exact ih2 (k + 1) _ _ ⟨⟨rfl, rfl, rfl, by first | rfl | exact vint_eq (by omega), trivial⟩, (by omega), (fun j hj => by rcases Nat.lt_succ_iff_lt_or_eq.1 hj with h | h; exact hq j h; subst h; assumption), hlen, hsz, hB⟩ (by first | omega | (dsimp only; omega))
   ·
    replace hc3 := dlt hc3
    refine r_exit rfl (r_seq (r_region' (l_q (qab rfl rfl) (l_nil (r_ret_ (vs := [.bool _]) rfl Tryz.func56 rfl (.nil _) ⟨rfl, trivial⟩ ?_)))))
    exact ⟨vbool_eq (by symm; rw [decide_eq_true_eq]; exact ext_getD hlen (fun j hj => hq j (by omega))), Ext.of_below hB⟩
theorem min_ret (xa : Option Addr) (xc : Nat) (xs : List Int) (w : World) (hx : Row w xa xs.length xc 1 (xs.map vint)) (hxn : xs.length ≤ 2097152) (h0 : 0 < xs.length) : Ret Tryz.prog 76 [.slice xa xs.length xc] w (fun v w' => v = vint (minOf xs) ∧ Ext w w') := by
 have hB := Below.refl w.heap.size w
 have hsz : w.heap.size ≤ w.heap.size := Nat.le_refl _
 refine ret_of_runs (args := [_]) Tryz.func76 rfl (Nat.le_of_ble_eq_true rfl) (by kernel_rfl) (r_seq (r_region' (l_q (qai rfl rfl) (l_nil (r_seq (r_seq (r_region' (l_q (qms rfl rfl) (l_q (q_len rfl Tryz.underlying31 rfl rfl) (l_q (q_lss rfl rfl rfl) (l_nil (r_cond rfl (fun hc1 => ?_) (fun hc1 => ?_)))))))))))))
 ·
  replace hc1 := dt hc1
  omega
 ·
  replace hc1 := dlt hc1
  refine r_skip (r_seq (r_region' (l_q (qms rfl rfl) ?_)))
  obtain ⟨b2, o2, ha2, hh2⟩ := (hx.below hB).at1 0 ((xs).getD 0 0) (getD_some (by omega))
  refine l_q (q_indexAddr1 Tryz.underlying31 Tryz.sizeOf3 rfl ha2 rfl (by omega) rfl) (l_q (q_load Tryz.isAgg3 rfl (hh2) rfl) (l_q (qai rfl rfl) (l_nil (r_seq (r_seq (r_region' (l_q (qai rfl rfl) (l_nil (r_block (r_rounds (α := Nat × Int) (fun ⟨k, m⟩ e wl => Knows e [(0, .slice xa xs.length xc), (3, vint m), (4, vint (k : Int))] ∧ (k ≤ xs.length) ∧ (m = (xs.take k).foldl min (xs.getD 0 0)) ∧ (w.heap.size ≤ wl.heap.size) ∧ (Below w.heap.size w wl)) (fun ⟨k, m⟩ => xs.length - k) (1, xs.getD 0 0) ?_ ?_))))))))))
  ·
   exact ⟨⟨rfl, rfl, rfl, trivial⟩, (by omega), (min_one h0).symm, hsz, hB⟩
  ·
   rintro ⟨k, m⟩ el3 wl3 ⟨hkn, hkk, hm, hsz, hB⟩ ih3
   obtain ⟨e3, rfl⟩ := knows_env hkn
   refine r_seq (r_seq (r_region' (l_q (qmi rfl rfl) (l_q (qms rfl rfl) (l_q (q_len rfl Tryz.underlying31 rfl rfl) (l_q (q_lss rfl rfl rfl) (l_nil (r_cond rfl (fun hc4 => ?_) (fun hc4 => ?_)))))))))
   ·
    replace hc4 := dt hc4
    refine r_skip (r_seq (r_block (r_region' (l_q (qmi rfl rfl) (l_q (qms rfl rfl) (l_q (qmi rfl rfl) ?_))))))
    obtain ⟨b5, o5, ha5, hh5⟩ := (hx.below hB).at1 k ((xs).getD k 0) (getD_some (by omega))
    refine l_q (q_indexAddr1 Tryz.underlying31 Tryz.sizeOf3 rfl ha5 rfl (by omega) rfl) (l_q (q_load Tryz.isAgg3 rfl (hh5) rfl) (l_q (q_min rfl rfl rfl) (l_q (qai rfl rfl) (l_nil (r_forget [(0, .slice _ _ _), (3, .int _ _), (4, .int _ _)] ⟨rfl, rfl, rfl, trivial⟩ (fun e6 => (r_inBlock (r_region' (l_q (qmi rfl rfl) (l_q (q_add rfl rfl (by omega) rfl) (l_q (qai rfl rfl) (l_nil ?_))))))))))))
    exact ih3 (k + 1, min m ((xs).getD k 0)) _ _ ⟨⟨rfl, rfl, by first | rfl | exact vint_eq (by omega), trivial⟩, (by omega), (by rw [hm]; exact min_step (by omega)), hsz, hB⟩ (by first | omega | (dsimp only; omega))
   ·
    replace hc4 := dlt hc4
    refine r_exit rfl (r_seq (r_region' (l_q (qmi rfl rfl) (l_q (qai rfl rfl) (l_nil (r_ret_ (vs := [.int _ _]) rfl Tryz.func76 rfl (.nil _) ⟨rfl, trivial⟩ ?_))))))
    exact ⟨vint_eq (by rw [hm, List.take_of_length_le (by omega)]; rfl), Ext.of_below hB⟩
theorem minimum_ret (xa : Option Addr) (xc : Nat) (xs : List Int) (w : World) (hx : Row w xa xs.length xc 1 (xs.map vint)) (hxn : xs.length ≤ 2097152) (h0 : 0 < xs.length) : Ret Tryz.prog 156 [.slice xa xs.length xc] w (fun v w' => v = vint (minOf xs) ∧ Ext w w') := by
 have hB := Below.refl w.heap.size w
 have hsz : w.heap.size ≤ w.heap.size := Nat.le_refl _
 refine ret_of_runs (args := [_]) Tryz.func156 rfl (Nat.le_of_ble_eq_true rfl) (by kernel_rfl) (r_seq (r_region' (l_q (qai rfl rfl) (l_nil (r_seq (r_region' (l_q (qms rfl rfl) (l_o (o_call Tryz.call76 rfl (min_ret _ _ xs _ (hx.below hB) (by first | omega | simp) (by first | omega | simp)) rfl ?_)))))))))
 rintro _ w1 ⟨rfl, hE1⟩
 replace hB := below_ext hB hE1 hsz
 replace hsz := Nat.le_trans hsz hE1.size
 refine l_q (qai rfl rfl) (l_nil (r_ret_ (vs := [.int _ _]) rfl Tryz.func156 rfl (.nil _) ⟨rfl, trivial⟩ ?_))
 exact ⟨rfl, Ext.of_below hB⟩
end Go.Proofs.YtbikicakdkbcgacGreat
