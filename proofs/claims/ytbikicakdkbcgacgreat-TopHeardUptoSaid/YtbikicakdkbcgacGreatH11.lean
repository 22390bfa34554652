/- Contracts. -/
import Derived.Test.YtbikicakdkbcgacGreatH10
import Derived.Test.YtbikicakdkbcgacGreatM6
set_option linter.unusedVariables false
set_option linter.unusedSimpArgs false
namespace Go.Proofs.YtbikicakdkbcgacGreat
open Go Go.RowKit Go.Gv Go.Fl

/-! ### A copied land -/
theorem kvx_get {kl : List KV} {k : Nat} : (kl.map KV.xs).getD k [] = (kl.getD k kv0).xs := by
  rw [List.getD_eq_getElem?_getD, List.getElem?_map, List.getD_eq_getElem?_getD]
  cases kl[k]? <;> rfl
section
variable {sl : List S4} {rl : List WL} {kl kl2 : List KV} {ul : List S3}
theorem canF_map (hm : kl2.map KV.xs = kl.map KV.xs) (i j k h : Nat) : canF sl rl kl2 ul i j k h = canF sl rl kl ul i j k h := by
  unfold canF whyF
  rw [← kvx_get (kl := kl2), ← kvx_get (kl := kl), hm]
theorem kl_len (hm : kl2.map KV.xs = kl.map KV.xs) : kl2.length = kl.length := by
  have := congrArg List.length hm
  rwa [List.length_map, List.length_map] at this
theorem okL_map (hm : kl2.map KV.xs = kl.map KV.xs) (h : OkL sl rl kl ul) : OkL sl rl kl2 ul := by
  have hl := kl_len hm
  have hx : ∀ i, (kl2.getD i kv0).xs = (kl.getD i kv0).xs := fun i => by rw [← kvx_get (kl := kl2), ← kvx_get (kl := kl), hm]
  exact ⟨h.s6, h.r6, by rw [hl]; exact h.k4, h.u12, fun i hi => by rw [hx]; exact h.few i (by omega), h.s0, by rw [hl]; exact h.k0, h.u0, h.st, h.ap, h.rg, fun i hi j hj => by
    rw [hx] at hj ⊢
    exact h.cl i (by omega) j hj, h.su⟩
end
/-! ### The example -/
def exS : List S4 := [⟨0, 0, 0, 1⟩, ⟨1, 0, 0, 1⟩]
def exU : List S3 := [⟨0, 0, 1⟩]
theorem ex_ok : OkL exS [] [kv0] exU := ⟨by decide, by decide, by decide, by decide, by decide, by decide, by decide, by decide, by decide, by decide, by decide, by decide, by decide⟩
theorem ex_can : canF exS [] [kv0] exU 0 1 0 0 = true := by decide +kernel
theorem ex_hrs : hrsF (fun q => canF exS [] [kv0] exU 0 1 0 q) 1 = [0] := by decide +kernel
theorem ex_heard (x : SN) (h0 : x.h = 0) (h1 : x.st = 0) (h2 : x.xs = [0]) : heardM (lg [[46]] 0 [0] [x] []) 1 = ([[0]], 0) := by
  obtain ⟨h, st, a, c, xs⟩ := x
  obtain rfl : h = 0 := h0
  obtain rfl : st = 0 := h1
  obtain rfl : xs = [0] := h2
  show heardM ⟨[[46]], 0, [0], [⟨0, 0, [0]⟩], []⟩ 1 = _
  decide +kernel

theorem rowB {w : World} {b n c sz : Nat} {cs cs' : List Value} (h : Blk w b cs') (he : cs' = cs) (hl : cs.length = n * sz) (hc : n ≤ c) : Row w (some ⟨b, 0, none⟩) n c sz cs := ⟨hl, hc, .inr ⟨b, 0, rfl, he ▸ h.cells0⟩⟩
theorem ex_first {D : List SV} (h : D.map (·.xs) = [[0]]) : (D.getD 0 sv0).xs = [0] := by
  cases D with
  | nil => cases h
  | cons x l => exact (List.cons.inj h).1

theorem el55 : Elem Tryz.prog 55 (.agg ⟨[vint 0, vint 0, .slice none 0 0]⟩) 3 40 := elem_of (by kernel_rfl) rfl (by decide)
theorem Hours2_ret (sa : Option Addr) (sc : Nat) (sl : List S4) (ra : Option Addr) (rc : Nat) (rl : List WL) (ka : Option Addr) (kc : Nat) (kl2 : List KV) (ua : Option Addr) (uc : Nat) (ul : List S3) (kl : List KV) (i j ki : Nat) (w : World) (hla : LandAt w sa sc sl ra rc rl ka kc kl2 ua uc ul) (hm : kl2.map KV.xs = kl.map KV.xs) (hok : OkL sl rl kl ul) (hgi : i < sl.length) (hgj : j < sl.length) (hgk : ki < kl.length) (hne : i ≠ j) : Ret Tryz.prog 11 [.agg ⟨[.slice sa sl.length sc, .slice ra rl.length rc, .slice ka (List.length kl2) kc, .slice ua ul.length uc]⟩, vint (i : Int), vint (j : Int), vint (ki : Int)] w
    (fun v w' => ∃ oa oc, v = .tuple ⟨[.slice oa (hrsF (fun q => canF sl rl kl ul i j ki q) ul.length).length oc, vint 0]⟩ ∧ Row w' oa (hrsF (fun q => canF sl rl kl ul i j ki q) ul.length).length oc 1 ((hrsF (fun q => canF sl rl kl ul i j ki q) ul.length).map vint) ∧ Ext w w') := by
  have h := Hours_ret sa sc sl ra rc rl ka kc kl2 ua uc ul i j ki w hla (okL_map hm hok) hgi hgj (by rw [kl_len hm]; exact hgk) hne
  rw [show (fun q => canF sl rl kl2 ul i j ki q) = (fun q => canF sl rl kl ul i j ki q) from funext (fun q => canF_map hm i j ki q)] at h
  exact h
theorem Earliest2_ret (sa : Option Addr) (sc : Nat) (sl : List S4) (ra : Option Addr) (rc : Nat) (rl : List WL) (ka : Option Addr) (kc : Nat) (kl2 : List KV) (ua : Option Addr) (uc : Nat) (ul : List S3) (kl : List KV) (fr st0 ki : Nat) (w : World) (hla : LandAt w sa sc sl ra rc rl ka kc kl2 ua uc ul) (hm : kl2.map KV.xs = kl.map KV.xs) (hok : OkL sl rl kl ul) (hgf : fr < sl.length) (hst : st0 < ul.length) (hgk : ki < kl.length) : Ret Tryz.prog 13 [.agg ⟨[.slice sa sl.length sc, .slice ra rl.length rc, .slice ka (List.length kl2) kc, .slice ua ul.length uc]⟩, vint (fr : Int), vint (st0 : Int), vint (ki : Int)] w
    (fun v w' => ∃ oa oc T, v = .tuple ⟨[.slice oa (List.length T) oc, vint 0]⟩ ∧ Row w' oa T.length oc 1 (T.map vint) ∧ T.length = sl.length ∧ (∀ b, b < sl.length → b ≠ fr → canF sl rl kl ul fr b ki st0 = true → T.getD b 0 = (st0 : Int) + 1) ∧ Ext w w') := by
  refine (Earliest_ret sa sc sl ra rc rl ka kc kl2 ua uc ul fr st0 ki w hla (okL_map hm hok) hgf hst (by rw [kl_len hm]; exact hgk)).mono (fun v w' h => ?_)
  obtain ⟨oa, oc, T, h1, h2, h3, h4, h5⟩ := h
  exact ⟨oa, oc, T, h1, h2, h3, fun b hb hne hc => h4 b hb hne (by rw [canF_map hm]; exact hc), h5⟩
theorem overheard_ret (w : World) : Ret Tryz.prog 9 [] w (fun v w' => v = .bool true ∧ Ext w w') := by
 have hB := Below.refl w.heap.size w
 have hsz : w.heap.size ≤ w.heap.size := Nat.le_refl _
 refine ret_of_runs (args := []) Tryz.func9 rfl (Nat.le_of_ble_eq_true rfl) (by kernel_rfl) (r_seq (r_region' (l_q (qab rfl rfl) (l_nil (r_seq (r_region' (l_q (q_build (v := .agg ⟨[vint 0, vint 0, vint 0, vint 1]⟩) (fun w => by kernel_rfl) rfl) (l_q (q_build (v := .agg ⟨[vint 1, vint 0, vint 0, vint 1]⟩) (fun w => by kernel_rfl) rfl) (l_o (o_buildSlice (el := 72) (cs := [vint 0, vint 0, vint 0, vint 1, vint 1, vint 0, vint 0, vint 1]) Tryz.underlying47 el72 (by decide) (by kernel_rfl) rfl (by decide) rfl ?_))))))))))
 intro b1 w1 hzl1 hzr1 _ hb1 hE1 ho1
 have hbs_b1 : w.heap.size ≤ b1 := Nat.le_trans hsz hzl1
 replace hB := below_ext hB hE1 hsz
 replace hsz := Nat.le_trans hsz hE1.size
 refine l_o (o_makeSlice (n := 1) Tryz.underlying49 el85 (rfl) (rfl) (by omega) (by unfold maxLen; omega) rfl ?_)
 intro b2 w2 hzl2 hzr2 _ hb2 hE2 ho2
 rw [made_one _ _ rfl] at hb2 ho2
 have hne_b1_b2 : b1 ≠ b2 := by have := hb1.lt; omega
 have hbs_b2 : w.heap.size ≤ b2 := Nat.le_trans hsz hzl2
 replace hB := below_ext hB hE2 hsz
 replace hb1 := hb1.ext hE2
 replace hsz := Nat.le_trans hsz hE2.size
 refine l_q (q_build (v := .agg ⟨[vint 0, vint 0, vint 1]⟩) (fun w => by kernel_rfl) rfl) (l_o (o_buildSlice (el := 73) (cs := [vint 0, vint 0, vint 1]) Tryz.underlying50 el73 (by decide) (by kernel_rfl) rfl (by decide) rfl ?_))
 intro b3 w3 hzl3 hzr3 _ hb3 hE3 ho3
 have hne_b1_b3 : b1 ≠ b3 := by have := hb1.lt; omega
 have hne_b2_b3 : b2 ≠ b3 := by have := hb2.lt; omega
 have hbs_b3 : w.heap.size ≤ b3 := Nat.le_trans hsz hzl3
 replace hB := below_ext hB hE3 hsz
 replace hb1 := hb1.ext hE3
 replace hb2 := hb2.ext hE3
 replace hsz := Nat.le_trans hsz hE3.size
 refine l_q (q_build (v := .agg ⟨[.slice (some ⟨b1, 0, none⟩) 2 2, .slice none 0 0, .slice (some ⟨b2, 0, none⟩) 1 1, .slice (some ⟨b3, 0, none⟩) 1 1]⟩) (fun w => by kernel_rfl) rfl) (l_o (o_alloc Tryz.zeroValue52 rfl rfl ?_))
 intro b4 w4 hzl4 hzr4 _ hb4 hE4
 have hne_b1_b4 : b1 ≠ b4 := by have := hb1.lt; omega
 have hne_b2_b4 : b2 ≠ b4 := by have := hb2.lt; omega
 have hne_b3_b4 : b3 ≠ b4 := by have := hb3.lt; omega
 have hbs_b4 : w.heap.size ≤ b4 := Nat.le_trans hsz hzl4
 replace hB := below_ext hB hE4 hsz
 replace hb1 := hb1.ext hE4
 replace hb2 := hb2.ext hE4
 replace hb3 := hb3.ext hE4
 replace hsz := Nat.le_trans hsz hE4.size
 refine l_o (o_store (vs := [.slice (some ⟨b1, 0, none⟩) 2 2, .slice none 0 0, .slice (some ⟨b2, 0, none⟩) 1 1, .slice (some ⟨b3, 0, none⟩) 1 1]) (cs' := [.slice (some ⟨b1, 0, none⟩) 2 2, .slice none 0 0, .slice (some ⟨b2, 0, none⟩) 1 1, .slice (some ⟨b3, 0, none⟩) 1 1]) Tryz.sizeOf52 rfl rfl rfl rfl hb4 (Nat.le_of_ble_eq_true rfl) rfl rfl ?_)
 intro w5 hz5 hb4 hG5
 replace hB := below_upd hB hG5 hsz (by omega)
 replace hsz : w.heap.size ≤ w5.heap.size := by rw [hz5]; exact hsz
 replace hb1 := hb1.upd hG5 (by omega)
 replace hb2 := hb2.upd hG5 (by omega)
 replace hb3 := hb3.upd hG5 (by omega)
 refine l_nil (r_seq (r_region' (l_q (q_load_agg (n := 4) Tryz.isAgg52 Tryz.sizeOf52 rfl ((hb4.cells' (cs' := [_, _, _, _]) 0 4 rfl)) rfl rfl) (l_o (o_call Tryz.call11 rfl ((by have h := Hours_ret (some ⟨b1, 0, none⟩) 2 exS none 0 [] (some ⟨b2, 0, none⟩) 1 [kv0] (some ⟨b3, 0, none⟩) 1 exU 0 1 0 _ (⟨rowB hb1 rfl rfl (by decide), Row.nil _ _ _ _, rowB hb2 rfl rfl (by decide), (fun p hp => by rw [List.mem_singleton.1 hp]; exact Row.nil _ _ _ _), rowB hb3 rfl rfl (by decide)⟩ : LandAt _ (some ⟨b1, 0, none⟩) 2 exS none 0 [] (some ⟨b2, 0, none⟩) 1 [kv0] (some ⟨b3, 0, none⟩) 1 exU) ex_ok (by decide) (by decide) (by decide) (by decide); rw [show exU.length = 1 from rfl, ex_hrs] at h; exact h)) rfl ?_)))))
 rintro _ w6 ⟨oa6, oc6, rfl, hro6, hE6⟩
 replace hB := below_ext hB hE6 hsz
 replace hb1 := hb1.ext hE6
 replace hb2 := hb2.ext hE6
 replace hb3 := hb3.ext hE6
 replace hb4 := hb4.ext hE6
 replace hsz := Nat.le_trans hsz hE6.size
 refine l_q (q_move (v := .tuple _) rfl rfl) (l_q (q_extract (vs := [_, _]) (v := .slice _ _ _) rfl rfl rfl) (l_q (q_extract (vs := [_, _]) (v := .int _ _) rfl rfl rfl) (l_q (qas rfl rfl) (l_q (qai rfl rfl) (l_nil (r_forget [(1, .pointer _), (2, .slice _ _ _), (3, .int _ _)] ⟨rfl, rfl, rfl, trivial⟩ (fun e7 => (r_seq (r_region' (l_q (q_load_agg (n := 4) Tryz.isAgg52 Tryz.sizeOf52 rfl ((hb4.cells' (cs' := [_, _, _, _]) 0 4 rfl)) rfl rfl) ?_))))))))))
 refine l_o (o_call Tryz.call13 rfl (Earliest_ret (some ⟨b1, 0, none⟩) 2 exS none 0 [] (some ⟨b2, 0, none⟩) 1 [kv0] (some ⟨b3, 0, none⟩) 1 exU 0 0 0 _ (⟨rowB hb1 rfl rfl (by decide), Row.nil _ _ _ _, rowB hb2 rfl rfl (by decide), (fun p hp => by rw [List.mem_singleton.1 hp]; exact Row.nil _ _ _ _), rowB hb3 rfl rfl (by decide)⟩ : LandAt _ (some ⟨b1, 0, none⟩) 2 exS none 0 [] (some ⟨b2, 0, none⟩) 1 [kv0] (some ⟨b3, 0, none⟩) 1 exU) ex_ok (by decide) (by decide) (by decide)) rfl ?_)
 rintro _ w8 ⟨oa8, oc8, T8, rfl, hro8, hTl, hTb, hE8⟩
 replace hB := below_ext hB hE8 hsz
 replace hb1 := hb1.ext hE8
 replace hb2 := hb2.ext hE8
 replace hb3 := hb3.ext hE8
 replace hb4 := hb4.ext hE8
 replace hro6 := hro6.ext hE8
 replace hsz := Nat.le_trans hsz hE8.size
 have hT2 : T8.length = 2 := hTl
 have hT1 : T8.getD 1 0 = 1 := hTb 1 (by decide) (by decide) ex_can
 refine l_q (q_move (v := .tuple _) rfl rfl) (l_q (q_extract (vs := [_, _]) (v := .slice _ _ _) rfl rfl rfl) (l_q (q_extract (vs := [_, _]) (v := .int _ _) rfl rfl rfl) (l_q (qas rfl rfl) (l_q (qai rfl rfl) (l_nil (r_seq (r_region' (l_o (o_buildSlice (el := 9) (cs := [vstr [46]]) Tryz.underlying28 el9 (by decide) (by kernel_rfl) rfl (by decide) rfl ?_)))))))))
 intro b9 w9 hzl9 hzr9 _ hb9 hE9 ho9
 have hne_b1_b9 : b1 ≠ b9 := by have := hb1.lt; omega
 have hne_b2_b9 : b2 ≠ b9 := by have := hb2.lt; omega
 have hne_b3_b9 : b3 ≠ b9 := by have := hb3.lt; omega
 have hne_b4_b9 : b4 ≠ b9 := by have := hb4.lt; omega
 have hbs_b9 : w.heap.size ≤ b9 := Nat.le_trans hsz hzl9
 replace hB := below_ext hB hE9 hsz
 replace hb1 := hb1.ext hE9
 replace hb2 := hb2.ext hE9
 replace hb3 := hb3.ext hE9
 replace hb4 := hb4.ext hE9
 replace hro6 := hro6.ext hE9
 replace hro8 := hro8.ext hE9
 replace hsz := Nat.le_trans hsz hE9.size
 refine l_q (q_build (v := .agg ⟨[.slice (some ⟨b9, 0, none⟩) 1 1]⟩) (fun w => by kernel_rfl) rfl) (l_o (o_buildSlice (el := 3) (cs := [vint 0]) Tryz.underlying31 el3 (by decide) (by kernel_rfl) rfl (by decide) rfl ?_))
 intro b10 w10 hzl10 hzr10 _ hb10 hE10 ho10
 have hne_b1_b10 : b1 ≠ b10 := by have := hb1.lt; omega
 have hne_b2_b10 : b2 ≠ b10 := by have := hb2.lt; omega
 have hne_b3_b10 : b3 ≠ b10 := by have := hb3.lt; omega
 have hne_b4_b10 : b4 ≠ b10 := by have := hb4.lt; omega
 have hne_b9_b10 : b9 ≠ b10 := by have := hb9.lt; omega
 have hbs_b10 : w.heap.size ≤ b10 := Nat.le_trans hsz hzl10
 replace hB := below_ext hB hE10 hsz
 replace hb1 := hb1.ext hE10
 replace hb2 := hb2.ext hE10
 replace hb3 := hb3.ext hE10
 replace hb4 := hb4.ext hE10
 replace hro6 := hro6.ext hE10
 replace hro8 := hro8.ext hE10
 replace hb9 := hb9.ext hE10
 replace hsz := Nat.le_trans hsz hE10.size
 refine l_o (o_buildSlice (el := 3) (cs := [vint 0]) Tryz.underlying31 el3 (by decide) (by kernel_rfl) rfl (by decide) rfl ?_)
 intro b11 w11 hzl11 hzr11 _ hb11 hE11 ho11
 have hne_b1_b11 : b1 ≠ b11 := by have := hb1.lt; omega
 have hne_b2_b11 : b2 ≠ b11 := by have := hb2.lt; omega
 have hne_b3_b11 : b3 ≠ b11 := by have := hb3.lt; omega
 have hne_b4_b11 : b4 ≠ b11 := by have := hb4.lt; omega
 have hne_b9_b11 : b9 ≠ b11 := by have := hb9.lt; omega
 have hne_b10_b11 : b10 ≠ b11 := by have := hb10.lt; omega
 have hbs_b11 : w.heap.size ≤ b11 := Nat.le_trans hsz hzl11
 replace hB := below_ext hB hE11 hsz
 replace hb1 := hb1.ext hE11
 replace hb2 := hb2.ext hE11
 replace hb3 := hb3.ext hE11
 replace hb4 := hb4.ext hE11
 replace hro6 := hro6.ext hE11
 replace hro8 := hro8.ext hE11
 replace hb9 := hb9.ext hE11
 replace hb10 := hb10.ext hE11
 replace hsz := Nat.le_trans hsz hE11.size
 refine l_q (q_build (v := .agg ⟨[vint 0, vint 0, .slice (some ⟨b11, 0, none⟩) 1 1]⟩) (fun w => by kernel_rfl) rfl) (l_o (o_buildSlice (el := 55) (cs := [vint 0, vint 0, .slice (some ⟨b11, 0, none⟩) 1 1]) Tryz.underlying40 el55 (by decide) (by kernel_rfl) rfl (by decide) rfl ?_))
 intro b12 w12 hzl12 hzr12 _ hb12 hE12 ho12
 have hne_b1_b12 : b1 ≠ b12 := by have := hb1.lt; omega
 have hne_b2_b12 : b2 ≠ b12 := by have := hb2.lt; omega
 have hne_b3_b12 : b3 ≠ b12 := by have := hb3.lt; omega
 have hne_b4_b12 : b4 ≠ b12 := by have := hb4.lt; omega
 have hne_b9_b12 : b9 ≠ b12 := by have := hb9.lt; omega
 have hne_b10_b12 : b10 ≠ b12 := by have := hb10.lt; omega
 have hne_b11_b12 : b11 ≠ b12 := by have := hb11.lt; omega
 have hbs_b12 : w.heap.size ≤ b12 := Nat.le_trans hsz hzl12
 replace hB := below_ext hB hE12 hsz
 replace hro6 := hro6.ext hE12
 replace hro8 := hro8.ext hE12
 replace hb9 := hb9.ext hE12
 replace hb10 := hb10.ext hE12
 replace hb11 := hb11.ext hE12
 replace hsz := Nat.le_trans hsz hE12.size
 refine l_q (q_build (v := .agg ⟨[.slice (some ⟨b9, 0, none⟩) 1 1, vint 0, .slice (some ⟨b10, 0, none⟩) 1 1, .slice (some ⟨b12, 0, none⟩) 1 1, .slice none 0 0]⟩) (fun w => by kernel_rfl) rfl) (l_o (o_call Tryz.call14 rfl ((by have h := mHeard_ret (some ⟨b9, 0, none⟩) 1 [[46]] 0 (some ⟨b10, 0, none⟩) 1 [0] (some ⟨b12, 0, none⟩) 1 ([⟨0, 0, some ⟨b11, 0, none⟩, 1, [0]⟩] : List SN) none 0 [] 1 _ ⟨rowB hb9 rfl rfl (Nat.le_of_ble_eq_true rfl), rowB hb10 rfl rfl (Nat.le_of_ble_eq_true rfl), rowB hb12 rfl rfl (Nat.le_of_ble_eq_true rfl), (fun p hp => by rw [List.mem_singleton.1 hp]; exact rowB hb11 rfl rfl (Nat.le_of_ble_eq_true rfl)), Row.nil _ _ _ _⟩ ⟨⟨(Nat.le_of_ble_eq_true rfl), by decide⟩, by decide, (Nat.le_of_ble_eq_true rfl), ⟨(Nat.le_of_ble_eq_true rfl), by simp⟩, (Nat.le_of_ble_eq_true rfl), by simp⟩; rw [ex_heard _ rfl rfl rfl] at h; exact h)) rfl ?_))
 rintro _ w13 ⟨oa13, oc13, D13, rfl, hro13, hrs13, hDx, hE13⟩
 replace hB := below_ext hB hE13 hsz
 replace hro6 := hro6.ext hE13
 replace hro8 := hro8.ext hE13
 replace hsz := Nat.le_trans hsz hE13.size
 have hD1 : D13.length = 1 := by have h := congrArg List.length hDx; simpa using h
 have hD0 : (D13.getD 0 sv0).xs = [0] := ex_first hDx
 have hDl : (D13.getD 0 sv0).xs.length = 1 := by rw [hD0]; rfl
 refine l_q (q_move (v := .tuple _) rfl rfl) (l_q (q_extract (vs := [_, _]) (v := .slice _ _ _) rfl rfl rfl) (l_q (q_extract (vs := [_, _]) (v := .int _ _) rfl rfl rfl) (l_q (qas rfl rfl) (l_q (qai rfl rfl) (l_nil (r_forget [(2, .slice _ _ _), (3, .int _ _), (4, .slice _ _ _), (5, .int _ _), (6, .slice _ _ _), (7, .int _ _)] ⟨rfl, rfl, rfl, rfl, rfl, rfl, trivial⟩ (fun e14 => (r_seq (r_region' (l_q (qmi rfl rfl) (l_q (q_eql rfl rfl rfl) (l_q (qmb rfl rfl) ?_))))))))))))
 have hk15 : (decide (0 = 0)) = true := by simp
 refine l_part 38 rfl (fun _ => ?_) (fun hx => absurd (hk15.symm.trans hx) (by decide))
 refine l_q (qms rfl rfl) (l_q (q_len rfl Tryz.underlying31 rfl rfl) (l_q (q_eql rfl rfl rfl) (l_q (q_pick_t (v := .bool _) rfl rfl rfl) (l_q (qmb rfl rfl) ?_))))
 have hk16 : (decide ((([0] : List Int).length : Int) = 1)) = true := by simp
 refine l_part 43 rfl (fun _ => ?_) (fun hx => absurd (hk16.symm.trans hx) (by decide))
 refine l_q (qms rfl rfl) ?_
 obtain ⟨b17, o17, ha17, hh17⟩ := hro6.at1 0 (([0] : List Int).getD 0 0) (getD_some (by decide))
 refine l_q (q_indexAddr1 Tryz.underlying31 Tryz.sizeOf3 rfl ha17 rfl (by decide) rfl) (l_q (q_load Tryz.isAgg3 rfl (hh17) rfl) (l_q (q_eql rfl rfl rfl) (l_q (q_pick_t (v := .bool _) rfl rfl rfl) (l_q (qmb rfl rfl) ?_))))
 have hk18 : (decide ((([0] : List Int).getD 0 0) = 0)) = true := by simp
 refine l_part 49 rfl (fun _ => ?_) (fun hx => absurd (hk18.symm.trans hx) (by decide))
 refine l_q (qmi rfl rfl) (l_q (q_eql rfl rfl rfl) (l_q (q_pick_t (v := .bool _) rfl rfl rfl) (l_q (qmb rfl rfl) ?_)))
 have hk19 : (decide (0 = 0)) = true := by decide
 refine l_part 53 rfl (fun _ => ?_) (fun hx => absurd (hk19.symm.trans hx) (by decide))
 refine l_q (qms rfl rfl) (l_q (q_len rfl Tryz.underlying31 rfl rfl) (l_q (q_eql rfl rfl rfl) (l_q (q_pick_t (v := .bool _) rfl rfl rfl) (l_q (qmb rfl rfl) ?_))))
 have hk20 : (decide (((T8).length : Int) = 2)) = true := by rw [hT2]; rfl
 refine l_part 58 rfl (fun _ => ?_) (fun hx => absurd (hk20.symm.trans hx) (by decide))
 refine l_q (qms rfl rfl) ?_
 obtain ⟨b21, o21, ha21, hh21⟩ := hro8.at1 1 ((T8).getD 1 0) (getD_some (by omega))
 refine l_q (q_indexAddr1 Tryz.underlying31 Tryz.sizeOf3 rfl ha21 rfl (by omega) rfl) (l_q (q_load Tryz.isAgg3 rfl (hh21) rfl) (l_q (q_eql rfl rfl rfl) (l_q (q_pick_t (v := .bool _) rfl rfl rfl) (l_q (qmb rfl rfl) ?_))))
 have hk22 : (decide (((T8).getD 1 0) = 1)) = true := by rw [hT1]; rfl
 refine l_part 64 rfl (fun _ => ?_) (fun hx => absurd (hk22.symm.trans hx) (by decide))
 refine l_q (qmi rfl rfl) (l_q (q_eql rfl rfl rfl) (l_q (q_pick_t (v := .bool _) rfl rfl rfl) (l_q (qmb rfl rfl) ?_)))
 have hk23 : (decide (0 = 0)) = true := by decide
 refine l_part 68 rfl (fun _ => ?_) (fun hx => absurd (hk23.symm.trans hx) (by decide))
 refine l_q (qms rfl rfl) (l_q (q_len rfl Tryz.underlying56 rfl rfl) (l_q (q_eql rfl rfl rfl) (l_q (q_pick_t (v := .bool _) rfl rfl rfl) (l_q (qmb rfl rfl) ?_))))
 have hk24 : (decide (((D13).length : Int) = 1)) = true := by rw [hD1]; rfl
 refine l_part 73 rfl (fun _ => ?_) (fun hx => absurd (hk24.symm.trans hx) (by decide))
 refine l_q (qms rfl rfl) ?_
 have hr26 := hrs13.get (i := 0) (by omega)
 obtain ⟨b25, o25, ha25, hh25⟩ := hro13.at1 0 ((D13).getD 0 sv0) (getD_some (by omega))
 refine l_q (q_indexAddr1 Tryz.underlying56 Tryz.sizeOf31 rfl ha25 rfl (by omega) rfl) (l_q (q_load Tryz.isAgg31 rfl (hh25) rfl) (l_q (q_len rfl Tryz.underlying31 rfl rfl) (l_q (q_eql rfl rfl rfl) (l_q (q_pick_t (v := .bool _) rfl rfl rfl) (l_q (qmb rfl rfl) ?_)))))
 have hk27 : (decide ((((D13).getD 0 sv0).xs.length : Int) = 1)) = true := by rw [hDl]; rfl
 refine l_part 80 rfl (fun _ => ?_) (fun hx => absurd (hk27.symm.trans hx) (by decide))
 refine l_q (qms rfl rfl) ?_
 have hr29 := hrs13.get (i := 0) (by omega)
 obtain ⟨b28, o28, ha28, hh28⟩ := hro13.at1 0 ((D13).getD 0 sv0) (getD_some (by omega))
 refine l_q (q_indexAddr1 Tryz.underlying56 Tryz.sizeOf31 rfl ha28 rfl (by omega) rfl) (l_q (q_load Tryz.isAgg31 rfl (hh28) rfl) ?_)
 obtain ⟨b30, o30, ha30, hh30⟩ := hr29.at1 0 ((((D13).getD 0 sv0).xs).getD 0 0) (getD_some (by omega))
 refine l_q (q_indexAddr1 Tryz.underlying31 Tryz.sizeOf3 rfl ha30 rfl (by omega) rfl) (l_q (q_load Tryz.isAgg3 rfl (hh30) rfl) (l_q (q_eql rfl rfl rfl) (l_q (q_pick_t (v := .bool _) rfl rfl rfl) (l_q (qab rfl rfl) (l_nil (r_forget [(0, .bool _)] ⟨rfl, trivial⟩ (fun e31 => (r_ret_ (vs := [.bool _]) rfl Tryz.func9 rfl (.nil _) ⟨rfl, trivial⟩ ?_))))))))
 exact ⟨vbool_eq (by rw [hD0]; rfl), Ext.of_below hB⟩
end Go.Proofs.YtbikicakdkbcgacGreat
