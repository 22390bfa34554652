/- Contracts. -/
import Derived.Test.YtbikicakdkbcgabGreatF7
set_option linter.unusedVariables false
set_option linter.unusedSimpArgs false
namespace Go.Proofs.YtbikicakdkbcgabGreat
open Go Go.RowKit Go.Gv Go.Fl

def minOf (xs : List Int) : Int := xs.foldl min (xs.getD 0 0)
theorem min_one {xs : List Int} (h : 0 < xs.length) : (xs.take 1).foldl min (xs.getD 0 0) = xs.getD 0 0 := by
  cases xs with
  | nil => cases h
  | cons x l => show min x x = x; omega
theorem min_step {xs : List Int} {k : Nat} (h : k < xs.length) : min ((xs.take k).foldl min (xs.getD 0 0)) (xs.getD k 0) = (xs.take (k + 1)).foldl min (xs.getD 0 0) := by
  rw [take_succ_getD h, List.foldl_append]; rfl
theorem min_two (x y : Int) : minOf [x, y] = min x y := by show min (min x x) y = min x y; omega
theorem min_ret (xa : Option Addr) (xc : Nat) (xs : List Int) (w : World) (hx : Row w xa xs.length xc 1 (xs.map vint)) (hxn : xs.length ≤ 2097152) (h0 : 0 < xs.length) : Ret Tryz.prog 78 [.slice xa xs.length xc] w (fun v w' => v = vint (minOf xs) ∧ Ext w w') := by
 have hB := Below.refl w.heap.size w
 have hsz : w.heap.size ≤ w.heap.size := Nat.le_refl _
 refine ret_of_runs (args := [_]) Tryz.func78 rfl (Nat.le_of_ble_eq_true rfl) (by kernel_rfl) (r_seq (r_region' (l_q (qai rfl rfl) (l_nil (r_seq (r_seq (r_region' (l_q (qms rfl rfl) (l_q (q_len rfl Tryz.underlying27 rfl rfl) (l_q (q_lss rfl rfl rfl) (l_nil (r_cond rfl (fun hc1 => ?_) (fun hc1 => ?_)))))))))))))
 ·
  replace hc1 := dt hc1
  omega
 ·
  replace hc1 := dlt hc1
  refine r_skip (r_seq (r_region' (l_q (qms rfl rfl) ?_)))
  obtain ⟨b2, o2, ha2, hh2⟩ := (hx.below hB).at1 0 ((xs).getD 0 0) (getD_some (by omega))
  refine l_q (q_indexAddr1 Tryz.underlying27 Tryz.sizeOf3 rfl ha2 rfl (by omega) rfl) (l_q (q_load Tryz.isAgg3 rfl (hh2) rfl) (l_q (qai rfl rfl) (l_nil (r_seq (r_seq (r_region' (l_q (qai rfl rfl) (l_nil (r_block (r_rounds (α := Nat × Int) (fun ⟨k, m⟩ e wl => Knows e [(0, .slice xa xs.length xc), (3, vint m), (4, vint (k : Int))] ∧ (k ≤ xs.length) ∧ (m = (xs.take k).foldl min (xs.getD 0 0)) ∧ (w.heap.size ≤ wl.heap.size) ∧ (Below w.heap.size w wl)) (fun ⟨k, m⟩ => xs.length - k) (1, xs.getD 0 0) ?_ ?_))))))))))
  ·
   exact ⟨⟨rfl, rfl, rfl, trivial⟩, (by omega), (min_one h0).symm, hsz, hB⟩
  ·
   rintro ⟨k, m⟩ el3 wl3 ⟨hkn, hkk, hm, hsz, hB⟩ ih3
   obtain ⟨e3, rfl⟩ := knows_env hkn
   refine r_seq (r_seq (r_region' (l_q (qmi rfl rfl) (l_q (qms rfl rfl) (l_q (q_len rfl Tryz.underlying27 rfl rfl) (l_q (q_lss rfl rfl rfl) (l_nil (r_cond rfl (fun hc4 => ?_) (fun hc4 => ?_)))))))))
   ·
    replace hc4 := dt hc4
    refine r_skip (r_seq (r_block (r_region' (l_q (qmi rfl rfl) (l_q (qms rfl rfl) (l_q (qmi rfl rfl) ?_))))))
    obtain ⟨b5, o5, ha5, hh5⟩ := (hx.below hB).at1 k ((xs).getD k 0) (getD_some (by omega))
    refine l_q (q_indexAddr1 Tryz.underlying27 Tryz.sizeOf3 rfl ha5 rfl (by omega) rfl) (l_q (q_load Tryz.isAgg3 rfl (hh5) rfl) (l_q (q_min rfl rfl rfl) (l_q (qai rfl rfl) (l_nil (r_forget [(0, .slice _ _ _), (3, .int _ _), (4, .int _ _)] ⟨rfl, rfl, rfl, trivial⟩ (fun e6 => (r_inBlock (r_region' (l_q (qmi rfl rfl) (l_q (q_add rfl rfl (by omega) rfl) (l_q (qai rfl rfl) (l_nil ?_))))))))))))
    exact ih3 (k + 1, min m ((xs).getD k 0)) _ _ ⟨⟨rfl, rfl, by first | rfl | exact vint_eq (by omega), trivial⟩, (by omega), (by rw [hm]; exact min_step (by omega)), hsz, hB⟩ (by first | omega | (dsimp only; omega))
   ·
    replace hc4 := dlt hc4
    refine r_exit rfl (r_seq (r_region' (l_q (qmi rfl rfl) (l_q (qai rfl rfl) (l_nil (r_ret_ (vs := [.int _ _]) rfl Tryz.func78 rfl (.nil _) ⟨rfl, trivial⟩ ?_))))))
    exact ⟨vint_eq (by rw [hm, List.take_of_length_le (by omega)]; rfl), Ext.of_below hB⟩
end Go.Proofs.YtbikicakdkbcgabGreat
