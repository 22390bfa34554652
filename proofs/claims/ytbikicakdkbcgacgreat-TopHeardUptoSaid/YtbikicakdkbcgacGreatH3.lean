/- Contracts. -/
import Derived.Test.YtbikicakdkbcgacGreatH1
set_option linter.unusedVariables false
set_option linter.unusedSimpArgs false
namespace Go.Proofs.YtbikicakdkbcgacGreat
open Go Go.RowKit Go.Gv Go.Fl

def InMap (x y : Int) : Prop := (0 ≤ x ∧ x ≤ 100) ∧ 0 ≤ y ∧ y ≤ 100
def sd (x1 y1 x2 y2 x y : Int) : Int := (x2 - x1) * (y - y1) - (y2 - y1) * (x - x1)
def ab (n : Int) : Int := max n (0 - n)
def abv (h : Int) (a b : S4) (f o : Int) : Int := a.z * o + b.z * f - h * (f + o)
theorem mulb {a b : Int} (ha : -100 ≤ a ∧ a ≤ 100) (hb : -100 ≤ b ∧ b ≤ 100) : -10000 ≤ a * b ∧ a * b ≤ 10000 := by
  have h1 : 0 ≤ (100 - a) * (100 + b) := Int.mul_nonneg (by omega) (by omega)
  have h2 : 0 ≤ (100 + a) * (100 - b) := Int.mul_nonneg (by omega) (by omega)
  have h3 : 0 ≤ (100 - a) * (100 - b) := Int.mul_nonneg (by omega) (by omega)
  have h4 : 0 ≤ (100 + a) * (100 + b) := Int.mul_nonneg (by omega) (by omega)
  simp only [Int.sub_mul, Int.add_mul, Int.mul_add, Int.mul_sub] at h1 h2 h3 h4
  omega
theorem mulc {a b A B : Int} (ha : 0 ≤ a ∧ a ≤ A) (hb : 0 ≤ b ∧ b ≤ B) : 0 ≤ a * b ∧ a * b ≤ A * B :=
  ⟨Int.mul_nonneg ha.1 hb.1, Int.mul_le_mul ha.2 hb.2 hb.1 (Int.le_trans ha.1 ha.2)⟩
theorem sd_le {x1 y1 x2 y2 x y : Int} (h1 : InMap x1 y1) (h2 : InMap x2 y2) (h3 : InMap x y) : -20000 ≤ sd x1 y1 x2 y2 x y ∧ sd x1 y1 x2 y2 x y ≤ 20000 := by
  obtain ⟨p1, p2⟩ := h1
  obtain ⟨q1, q2⟩ := h2
  obtain ⟨r1, r2⟩ := h3
  have := mulb (a := x2 - x1) (b := y - y1) (by omega) (by omega)
  have := mulb (a := y2 - y1) (b := x - x1) (by omega) (by omega)
  unfold sd
  omega
theorem ab_le {n : Int} (h : -20000 ≤ n ∧ n ≤ 20000) : 0 ≤ ab n ∧ ab n ≤ 20000 := by unfold ab; omega
theorem okWl_map {k : WL} (h : okWl k = true) : InMap k.x1 k.y1 ∧ InMap k.x2 k.y2 ∧ (0 ≤ k.ba ∧ k.ba ≤ k.tp ∧ k.tp ≤ 1000) := by
  have := of_decide_eq_true h
  unfold InMap
  omega
theorem okSt_map {a : S4} (h : okSt a = true) : InMap a.x a.y ∧ (0 ≤ a.z ∧ a.z ≤ 1000) := by
  have := of_decide_eq_true h
  unfold InMap
  omega
def blkF (k : WL) (a b : S4) : Bool :=
  if sd k.x1 k.y1 k.x2 k.y2 a.x a.y = 0 then false else if sd k.x1 k.y1 k.x2 k.y2 b.x b.y = 0 then false
  else if (decide (0 < sd k.x1 k.y1 k.x2 k.y2 a.x a.y) == decide (0 < sd k.x1 k.y1 k.x2 k.y2 b.x b.y)) = true then false
  else if 0 < sd a.x a.y b.x b.y k.x1 k.y1 ∧ 0 < sd a.x a.y b.x b.y k.x2 k.y2 then false
  else if sd a.x a.y b.x b.y k.x1 k.y1 < 0 ∧ sd a.x a.y b.x b.y k.x2 k.y2 < 0 then false
  else decide (0 ≤ abv k.ba a b (ab (sd k.x1 k.y1 k.x2 k.y2 a.x a.y)) (ab (sd k.x1 k.y1 k.x2 k.y2 b.x b.y))) && decide (abv k.tp a b (ab (sd k.x1 k.y1 k.x2 k.y2 a.x a.y)) (ab (sd k.x1 k.y1 k.x2 k.y2 b.x b.y)) ≤ 0)

theorem fld204_0 (w : World) (b o : Nat) : (Instr.fieldAt 204 (ptr b o) 0).run Tryz.prog w = .ok (ptr b (o + 0)) w := by
  simp [Instr.fieldAt, run_underlying Tryz.underlying204, fieldPlace, Instr.sureAddr, Tryz.sizeOf202, Addr.add_lit]
theorem side_ret (x1 y1 x2 y2 x y : Int) (w : World) (hP : InMap x1 y1) (hQ : InMap x2 y2) (hX : InMap x y) : Ret Tryz.prog 142 [.agg ⟨[vint x1, vint y1]⟩, .agg ⟨[vint x2, vint y2]⟩, .agg ⟨[vint x, vint y]⟩] w (fun v w' => v = vint (sd x1 y1 x2 y2 x y) ∧ Ext w w') := by
 obtain ⟨hP1, hP2⟩ := hP
 obtain ⟨hQ1, hQ2⟩ := hQ
 obtain ⟨hX1, hX2⟩ := hX
 have hB := Below.refl w.heap.size w
 have hsz : w.heap.size ≤ w.heap.size := Nat.le_refl _
 refine ret_of_runs (args := [_, _, _]) Tryz.func142 rfl (Nat.le_of_ble_eq_true rfl) (by kernel_rfl) (r_seq (r_region' (l_o (o_box rfl rfl rfl ?_))))
 intro b1 w1 hzl1 hzr1 _ hb1 hE1
 have hbs_b1 : w.heap.size ≤ b1 := Nat.le_trans hsz hzl1
 replace hB := below_ext hB hE1 hsz
 replace hsz := Nat.le_trans hsz hE1.size
 refine l_o (o_box rfl rfl rfl ?_)
 intro b2 w2 hzl2 hzr2 _ hb2 hE2
 have hbs_b2 : w.heap.size ≤ b2 := Nat.le_trans hsz hzl2
 replace hB := below_ext hB hE2 hsz
 replace hb1 := hb1.ext hE2
 replace hsz := Nat.le_trans hsz hE2.size
 refine l_o (o_box rfl rfl rfl ?_)
 intro b3 w3 hzl3 hzr3 _ hb3 hE3
 have hbs_b3 : w.heap.size ≤ b3 := Nat.le_trans hsz hzl3
 replace hB := below_ext hB hE3 hsz
 replace hb1 := hb1.ext hE3
 replace hb2 := hb2.ext hE3
 replace hsz := Nat.le_trans hsz hE3.size
 refine l_q (qai rfl rfl) (l_nil (r_seq (r_region' (l_q ((q_indexAddr_arr1 Tryz.underlying163 Tryz.sizeOf3 rfl rfl (by decide) rfl).cast (ptr0 _ _)) (l_q (q_load Tryz.isAgg3 rfl ((hb2.has (o := 0) rfl)) rfl) (l_q ((q_indexAddr_arr1 Tryz.underlying163 Tryz.sizeOf3 rfl rfl (by decide) rfl).cast (ptr0 _ _)) (l_q (q_load Tryz.isAgg3 rfl ((hb1.has (o := 0) rfl)) rfl) (l_q (q_sub rfl rfl (by omega) rfl) (l_q ((q_indexAddr_arr1 Tryz.underlying163 Tryz.sizeOf3 rfl rfl (by decide) rfl).cast (ptr0 _ _)) (l_q (q_load Tryz.isAgg3 rfl ((hb3.has (o := 1) rfl)) rfl) (l_q ((q_indexAddr_arr1 Tryz.underlying163 Tryz.sizeOf3 rfl rfl (by decide) rfl).cast (ptr0 _ _)) (l_q (q_load Tryz.isAgg3 rfl ((hb1.has (o := 1) rfl)) rfl) (l_q (q_sub rfl rfl (by omega) rfl) (l_q (q_mul rfl rfl (by have := mulb (a := x2 - x1) (b := y - y1) (by omega) (by omega); omega) rfl) ?_))))))))))))))
 refine l_q ((q_indexAddr_arr1 Tryz.underlying163 Tryz.sizeOf3 rfl rfl (by decide) rfl).cast (ptr0 _ _)) (l_q (q_load Tryz.isAgg3 rfl ((hb2.has (o := 1) rfl)) rfl) (l_q ((q_indexAddr_arr1 Tryz.underlying163 Tryz.sizeOf3 rfl rfl (by decide) rfl).cast (ptr0 _ _)) (l_q (q_load Tryz.isAgg3 rfl ((hb1.has (o := 1) rfl)) rfl) (l_q (q_sub rfl rfl (by omega) rfl) (l_q ((q_indexAddr_arr1 Tryz.underlying163 Tryz.sizeOf3 rfl rfl (by decide) rfl).cast (ptr0 _ _)) (l_q (q_load Tryz.isAgg3 rfl ((hb3.has (o := 0) rfl)) rfl) (l_q ((q_indexAddr_arr1 Tryz.underlying163 Tryz.sizeOf3 rfl rfl (by decide) rfl).cast (ptr0 _ _)) (l_q (q_load Tryz.isAgg3 rfl ((hb1.has (o := 0) rfl)) rfl) (l_q (q_sub rfl rfl (by omega) rfl) (l_q (q_mul rfl rfl (by have := mulb (a := y2 - y1) (b := x - x1) (by omega) (by omega); omega) rfl) ?_))))))))))
 refine l_q (q_sub rfl rfl (by have := mulb (a := x2 - x1) (b := y - y1) (by omega) (by omega); have := mulb (a := y2 - y1) (b := x - x1) (by omega) (by omega); omega) rfl) (l_q (qai rfl rfl) (l_nil (r_forget [(6, .int _ _)] ⟨rfl, trivial⟩ (fun e4 => (r_ret_ (vs := [.int _ _]) rfl Tryz.func142 rfl (.nil _) ⟨rfl, trivial⟩ ?_)))))
 exact ⟨rfl, Ext.of_below hB⟩
theorem abs_ret (n : Int) (w : World) (hn : -20000 ≤ n ∧ n ≤ 20000) : Ret Tryz.prog 143 [vint n] w (fun v w' => v = vint (ab n) ∧ w = w') := by
 have hB := Below.refl w.heap.size w
 have hsz : w.heap.size ≤ w.heap.size := Nat.le_refl _
 refine ret_of_runs (args := [_]) Tryz.func143 rfl (Nat.le_of_ble_eq_true rfl) (by kernel_rfl) (r_seq (r_region' (l_q (qai rfl rfl) (l_nil (r_seq (r_region' (l_q (qmi rfl rfl) (l_q (qmi rfl rfl) (l_q (q_neg rfl (by omega) rfl) (l_q (q_max rfl rfl rfl) (l_q (qai rfl rfl) (l_nil (r_ret_ (vs := [.int _ _]) rfl Tryz.func143 rfl (.nil _) ⟨rfl, trivial⟩ ?_)))))))))))))
 exact ⟨rfl, rfl⟩
theorem base_ret (k : WL) (w : World) : Ret Tryz.prog 144 [.agg ⟨[vint k.x1, vint k.y1, vint k.x2, vint k.y2, vint k.ba, vint k.tp]⟩] w (fun v w' => v = vint k.ba ∧ Ext w w') := by
 have hB := Below.refl w.heap.size w
 have hsz : w.heap.size ≤ w.heap.size := Nat.le_refl _
 refine ret_of_runs (args := [_]) Tryz.func144 rfl (Nat.le_of_ble_eq_true rfl) (by kernel_rfl) (r_seq (r_region' (l_o (o_box rfl rfl rfl ?_))))
 intro b1 w1 hzl1 hzr1 _ hb1 hE1
 have hbs_b1 : w.heap.size ≤ b1 := Nat.le_trans hsz hzl1
 replace hB := below_ext hB hE1 hsz
 replace hsz := Nat.le_trans hsz hE1.size
 refine l_q (qai rfl rfl) (l_nil (r_seq (r_region' (l_q (q_fieldAddr (o' := 4) rfl fld83_4 rfl) (l_q (q_load Tryz.isAgg3 rfl ((hb1.has (o := 4) rfl)) rfl) (l_q (qai rfl rfl) (l_nil (r_ret_ (vs := [.int _ _]) rfl Tryz.func144 rfl (.nil _) ⟨rfl, trivial⟩ ?_))))))))
 exact ⟨rfl, Ext.of_below hB⟩
theorem top_ret (k : WL) (w : World) : Ret Tryz.prog 145 [.agg ⟨[vint k.x1, vint k.y1, vint k.x2, vint k.y2, vint k.ba, vint k.tp]⟩] w (fun v w' => v = vint k.tp ∧ Ext w w') := by
 have hB := Below.refl w.heap.size w
 have hsz : w.heap.size ≤ w.heap.size := Nat.le_refl _
 refine ret_of_runs (args := [_]) Tryz.func145 rfl (Nat.le_of_ble_eq_true rfl) (by kernel_rfl) (r_seq (r_region' (l_o (o_box rfl rfl rfl ?_))))
 intro b1 w1 hzl1 hzr1 _ hb1 hE1
 have hbs_b1 : w.heap.size ≤ b1 := Nat.le_trans hsz hzl1
 replace hB := below_ext hB hE1 hsz
 replace hsz := Nat.le_trans hsz hE1.size
 refine l_q (qai rfl rfl) (l_nil (r_seq (r_region' (l_q (q_fieldAddr (o' := 5) rfl fld83_5 rfl) (l_q (q_load Tryz.isAgg3 rfl ((hb1.has (o := 5) rfl)) rfl) (l_q (qai rfl rfl) (l_nil (r_ret_ (vs := [.int _ _]) rfl Tryz.func145 rfl (.nil _) ⟨rfl, trivial⟩ ?_))))))))
 exact ⟨rfl, Ext.of_below hB⟩
theorem above_base_ret (k : WL) (a b : S4) (f o : Int) (w : World) (ha : 0 ≤ a.z ∧ a.z ≤ 1000) (hb : 0 ≤ b.z ∧ b.z ≤ 1000) (hk : 0 ≤ k.ba ∧ k.ba ≤ k.tp ∧ k.tp ≤ 1000) (hf : 0 ≤ f ∧ f ≤ 20000) (ho : 0 ≤ o ∧ o ≤ 20000) : Ret Tryz.prog 146 [.agg ⟨[.func (.func 144) ⟨[]⟩ ⟨[]⟩]⟩, .agg ⟨[vint k.x1, vint k.y1, vint k.x2, vint k.y2, vint k.ba, vint k.tp]⟩, .agg ⟨[vint a.x, vint a.y, vint a.z, vint a.m]⟩, .agg ⟨[vint b.x, vint b.y, vint b.z, vint b.m]⟩, vint f, vint o] w (fun v w' => v = vint (abv k.ba a b f o) ∧ Ext w w') := by
 have hB := Below.refl w.heap.size w
 have hsz : w.heap.size ≤ w.heap.size := Nat.le_refl _
 refine ret_of_runs (args := [_, _, _, _, _, _]) Tryz.func146 rfl (Nat.le_of_ble_eq_true rfl) (by kernel_rfl) (r_seq (r_region' (l_o (o_box rfl rfl rfl ?_))))
 intro b1 w1 hzl1 hzr1 _ hb1 hE1
 have hbs_b1 : w.heap.size ≤ b1 := Nat.le_trans hsz hzl1
 replace hB := below_ext hB hE1 hsz
 replace hsz := Nat.le_trans hsz hE1.size
 refine l_o (o_box rfl rfl rfl ?_)
 intro b2 w2 hzl2 hzr2 _ hb2 hE2
 have hne_b1_b2 : b1 ≠ b2 := by have := hb1.lt; omega
 have hbs_b2 : w.heap.size ≤ b2 := Nat.le_trans hsz hzl2
 replace hB := below_ext hB hE2 hsz
 replace hb1 := hb1.ext hE2
 replace hsz := Nat.le_trans hsz hE2.size
 refine l_o (o_box rfl rfl rfl ?_)
 intro b3 w3 hzl3 hzr3 _ hb3 hE3
 have hne_b1_b3 : b1 ≠ b3 := by have := hb1.lt; omega
 have hne_b2_b3 : b2 ≠ b3 := by have := hb2.lt; omega
 have hbs_b3 : w.heap.size ≤ b3 := Nat.le_trans hsz hzl3
 replace hB := below_ext hB hE3 hsz
 replace hb1 := hb1.ext hE3
 replace hb2 := hb2.ext hE3
 replace hsz := Nat.le_trans hsz hE3.size
 refine l_o (o_box rfl rfl rfl ?_)
 intro b4 w4 hzl4 hzr4 _ hb4 hE4
 have hne_b1_b4 : b1 ≠ b4 := by have := hb1.lt; omega
 have hne_b2_b4 : b2 ≠ b4 := by have := hb2.lt; omega
 have hne_b3_b4 : b3 ≠ b4 := by have := hb3.lt; omega
 have hbs_b4 : w.heap.size ≤ b4 := Nat.le_trans hsz hzl4
 replace hB := below_ext hB hE4 hsz
 replace hb1 := hb1.ext hE4
 replace hb2 := hb2.ext hE4
 replace hb3 := hb3.ext hE4
 replace hsz := Nat.le_trans hsz hE4.size
 refine l_q (qai rfl rfl) (l_nil (r_seq (r_draw ext_refl' ext_trans' [0, 1, 2, 3, 4, 5, 6, 7, 8, 9, 10, 11, 13, 14, 15, 12, 16, 17, 18] [12] 20 (by kernel_rfl) (by kernel_rfl) ?_)))
 intro w5 _ hE5
 replace hB := below_ext hB hE5 hsz
 replace hb1 := hb1.ext hE5
 replace hb2 := hb2.ext hE5
 replace hb3 := hb3.ext hE5
 replace hb4 := hb4.ext hE5
 replace hsz := Nat.le_trans hsz hE5.size
 refine m_q rfl rfl (fun w' hC' => q_fieldAddr (o' := 2) rfl fld72_2 rfl) (m_q rfl rfl (fun w' hC' => q_load Tryz.isAgg3 rfl (((hb3.has (o := 2) rfl).ext hC')) rfl) (m_q rfl rfl (fun w' hC' => qmi rfl rfl) (m_q rfl rfl (fun w' hC' => q_mul rfl rfl (by have := mulc (a := a.z) (b := o) (A := 1000) (B := 20000) (by omega) (by omega); omega) rfl) (m_q rfl rfl (fun w' hC' => q_fieldAddr (o' := 2) rfl fld72_2 rfl) (m_q rfl rfl (fun w' hC' => q_load Tryz.isAgg3 rfl (((hb4.has (o := 2) rfl).ext hC')) rfl) (m_q rfl rfl (fun w' hC' => qmi rfl rfl) (m_q rfl rfl (fun w' hC' => q_mul rfl rfl (by have := mulc (a := b.z) (b := f) (A := 1000) (B := 20000) (by omega) (by omega); omega) rfl) (m_q rfl rfl (fun w' hC' => q_add rfl rfl (by have := mulc (a := a.z) (b := o) (A := 1000) (B := 20000) (by omega) (by omega); have := mulc (a := b.z) (b := f) (A := 1000) (B := 20000) (by omega) (by omega); omega) rfl) ?_))))))))
 refine m_q rfl rfl (fun w' hC' => q_fieldAddr (o' := 0) rfl fld204_0 rfl) (m_q rfl rfl (fun w' hC' => q_load Tryz.isAgg202 rfl (((hb1.has (o := 0) rfl).ext hC')) rfl) (m_q rfl rfl (fun w' hC' => q_load_agg (n := 6) Tryz.isAgg83 Tryz.sizeOf83 rfl (((hb2.cells' (cs' := [_, _, _, _, _, _]) 0 6 rfl).ext hC')) rfl rfl) (m_q rfl rfl (fun w' hC' => qmi rfl rfl) (m_q rfl rfl (fun w' hC' => qmi rfl rfl) (m_q rfl rfl (fun w' hC' => q_add rfl rfl (by omega) rfl) (m_o rfl rfl (o_callv (f := 144) (fst := []) (cap := []) rfl Tryz.call144 rfl (base_ret k _) rfl ?_)))))))
 rintro _ w6 ⟨rfl, hE6⟩
 refine ⟨hE6, ?_⟩
 replace hB := below_ext hB hE6 hsz
 replace hsz := Nat.le_trans hsz hE6.size
 refine m_q rfl rfl (fun w' hC' => q_mul rfl rfl (by have := mulc (a := k.ba) (b := f + o) (A := 1000) (B := 40000) (by omega) (by omega); omega) rfl) (m_q rfl rfl (fun w' hC' => q_sub rfl rfl (by have := mulc (a := a.z) (b := o) (A := 1000) (B := 20000) (by omega) (by omega); have := mulc (a := b.z) (b := f) (A := 1000) (B := 20000) (by omega) (by omega); have := mulc (a := k.ba) (b := f + o) (A := 1000) (B := 40000) (by omega) (by omega); omega) rfl) (m_q rfl rfl (fun w' hC' => qai rfl rfl) (m_nil (r_forget [(12, .int _ _)] ⟨rfl, trivial⟩ (fun e7 => (r_ret_ (vs := [.int _ _]) rfl Tryz.func146 rfl (.nil _) ⟨rfl, trivial⟩ ?_))))))
 exact ⟨rfl, Ext.of_below hB⟩
theorem above_top_ret (k : WL) (a b : S4) (f o : Int) (w : World) (ha : 0 ≤ a.z ∧ a.z ≤ 1000) (hb : 0 ≤ b.z ∧ b.z ≤ 1000) (hk : 0 ≤ k.ba ∧ k.ba ≤ k.tp ∧ k.tp ≤ 1000) (hf : 0 ≤ f ∧ f ≤ 20000) (ho : 0 ≤ o ∧ o ≤ 20000) : Ret Tryz.prog 146 [.agg ⟨[.func (.func 145) ⟨[]⟩ ⟨[]⟩]⟩, .agg ⟨[vint k.x1, vint k.y1, vint k.x2, vint k.y2, vint k.ba, vint k.tp]⟩, .agg ⟨[vint a.x, vint a.y, vint a.z, vint a.m]⟩, .agg ⟨[vint b.x, vint b.y, vint b.z, vint b.m]⟩, vint f, vint o] w (fun v w' => v = vint (abv k.tp a b f o) ∧ Ext w w') := by
 have hB := Below.refl w.heap.size w
 have hsz : w.heap.size ≤ w.heap.size := Nat.le_refl _
 refine ret_of_runs (args := [_, _, _, _, _, _]) Tryz.func146 rfl (Nat.le_of_ble_eq_true rfl) (by kernel_rfl) (r_seq (r_region' (l_o (o_box rfl rfl rfl ?_))))
 intro b1 w1 hzl1 hzr1 _ hb1 hE1
 have hbs_b1 : w.heap.size ≤ b1 := Nat.le_trans hsz hzl1
 replace hB := below_ext hB hE1 hsz
 replace hsz := Nat.le_trans hsz hE1.size
 refine l_o (o_box rfl rfl rfl ?_)
 intro b2 w2 hzl2 hzr2 _ hb2 hE2
 have hne_b1_b2 : b1 ≠ b2 := by have := hb1.lt; omega
 have hbs_b2 : w.heap.size ≤ b2 := Nat.le_trans hsz hzl2
 replace hB := below_ext hB hE2 hsz
 replace hb1 := hb1.ext hE2
 replace hsz := Nat.le_trans hsz hE2.size
 refine l_o (o_box rfl rfl rfl ?_)
 intro b3 w3 hzl3 hzr3 _ hb3 hE3
 have hne_b1_b3 : b1 ≠ b3 := by have := hb1.lt; omega
 have hne_b2_b3 : b2 ≠ b3 := by have := hb2.lt; omega
 have hbs_b3 : w.heap.size ≤ b3 := Nat.le_trans hsz hzl3
 replace hB := below_ext hB hE3 hsz
 replace hb1 := hb1.ext hE3
 replace hb2 := hb2.ext hE3
 replace hsz := Nat.le_trans hsz hE3.size
 refine l_o (o_box rfl rfl rfl ?_)
 intro b4 w4 hzl4 hzr4 _ hb4 hE4
 have hne_b1_b4 : b1 ≠ b4 := by have := hb1.lt; omega
 have hne_b2_b4 : b2 ≠ b4 := by have := hb2.lt; omega
 have hne_b3_b4 : b3 ≠ b4 := by have := hb3.lt; omega
 have hbs_b4 : w.heap.size ≤ b4 := Nat.le_trans hsz hzl4
 replace hB := below_ext hB hE4 hsz
 replace hb1 := hb1.ext hE4
 replace hb2 := hb2.ext hE4
 replace hb3 := hb3.ext hE4
 replace hsz := Nat.le_trans hsz hE4.size
 refine l_q (qai rfl rfl) (l_nil (r_seq (r_draw ext_refl' ext_trans' [0, 1, 2, 3, 4, 5, 6, 7, 8, 9, 10, 11, 13, 14, 15, 12, 16, 17, 18] [12] 20 (by kernel_rfl) (by kernel_rfl) ?_)))
 intro w5 _ hE5
 replace hB := below_ext hB hE5 hsz
 replace hb1 := hb1.ext hE5
 replace hb2 := hb2.ext hE5
 replace hb3 := hb3.ext hE5
 replace hb4 := hb4.ext hE5
 replace hsz := Nat.le_trans hsz hE5.size
 refine m_q rfl rfl (fun w' hC' => q_fieldAddr (o' := 2) rfl fld72_2 rfl) (m_q rfl rfl (fun w' hC' => q_load Tryz.isAgg3 rfl (((hb3.has (o := 2) rfl).ext hC')) rfl) (m_q rfl rfl (fun w' hC' => qmi rfl rfl) (m_q rfl rfl (fun w' hC' => q_mul rfl rfl (by have := mulc (a := a.z) (b := o) (A := 1000) (B := 20000) (by omega) (by omega); omega) rfl) (m_q rfl rfl (fun w' hC' => q_fieldAddr (o' := 2) rfl fld72_2 rfl) (m_q rfl rfl (fun w' hC' => q_load Tryz.isAgg3 rfl (((hb4.has (o := 2) rfl).ext hC')) rfl) (m_q rfl rfl (fun w' hC' => qmi rfl rfl) (m_q rfl rfl (fun w' hC' => q_mul rfl rfl (by have := mulc (a := b.z) (b := f) (A := 1000) (B := 20000) (by omega) (by omega); omega) rfl) (m_q rfl rfl (fun w' hC' => q_add rfl rfl (by have := mulc (a := a.z) (b := o) (A := 1000) (B := 20000) (by omega) (by omega); have := mulc (a := b.z) (b := f) (A := 1000) (B := 20000) (by omega) (by omega); omega) rfl) ?_))))))))
 refine m_q rfl rfl (fun w' hC' => q_fieldAddr (o' := 0) rfl fld204_0 rfl) (m_q rfl rfl (fun w' hC' => q_load Tryz.isAgg202 rfl (((hb1.has (o := 0) rfl).ext hC')) rfl) (m_q rfl rfl (fun w' hC' => q_load_agg (n := 6) Tryz.isAgg83 Tryz.sizeOf83 rfl (((hb2.cells' (cs' := [_, _, _, _, _, _]) 0 6 rfl).ext hC')) rfl rfl) (m_q rfl rfl (fun w' hC' => qmi rfl rfl) (m_q rfl rfl (fun w' hC' => qmi rfl rfl) (m_q rfl rfl (fun w' hC' => q_add rfl rfl (by omega) rfl) (m_o rfl rfl (o_callv (f := 145) (fst := []) (cap := []) rfl Tryz.call145 rfl (top_ret k _) rfl ?_)))))))
 rintro _ w6 ⟨rfl, hE6⟩
 refine ⟨hE6, ?_⟩
 replace hB := below_ext hB hE6 hsz
 replace hsz := Nat.le_trans hsz hE6.size
 refine m_q rfl rfl (fun w' hC' => q_mul rfl rfl (by have := mulc (a := k.tp) (b := f + o) (A := 1000) (B := 40000) (by omega) (by omega); omega) rfl) (m_q rfl rfl (fun w' hC' => q_sub rfl rfl (by have := mulc (a := a.z) (b := o) (A := 1000) (B := 20000) (by omega) (by omega); have := mulc (a := b.z) (b := f) (A := 1000) (B := 20000) (by omega) (by omega); have := mulc (a := k.tp) (b := f + o) (A := 1000) (B := 40000) (by omega) (by omega); omega) rfl) (m_q rfl rfl (fun w' hC' => qai rfl rfl) (m_nil (r_forget [(12, .int _ _)] ⟨rfl, trivial⟩ (fun e7 => (r_ret_ (vs := [.int _ _]) rfl Tryz.func146 rfl (.nil _) ⟨rfl, trivial⟩ ?_))))))
 exact ⟨rfl, Ext.of_below hB⟩
theorem blocks_ret (k : WL) (a b : S4) (w : World) (hk : okWl k = true) (ha : okSt a = true) (hb : okSt b = true) : Ret Tryz.prog 108 [.agg ⟨[vint k.x1, vint k.y1, vint k.x2, vint k.y2, vint k.ba, vint k.tp]⟩, .agg ⟨[vint a.x, vint a.y, vint a.z, vint a.m]⟩, .agg ⟨[vint b.x, vint b.y, vint b.z, vint b.m]⟩] w (fun v w' => v = .bool (blkF k a b) ∧ Ext w w') := by
 obtain ⟨hmp, hmq, hzk⟩ := okWl_map hk
 obtain ⟨hma, hza⟩ := okSt_map ha
 obtain ⟨hmb, hzb⟩ := okSt_map hb
 have hsf := sd_le hmp hmq hma
 have hso := sd_le hmp hmq hmb
 have hB := Below.refl w.heap.size w
 have hsz : w.heap.size ≤ w.heap.size := Nat.le_refl _
 refine ret_of_runs (args := [_, _, _]) Tryz.func108 rfl (Nat.le_of_ble_eq_true rfl) (by kernel_rfl) (r_seq (r_region' (l_o (o_box rfl rfl rfl ?_))))
 intro b1 w1 hzl1 hzr1 _ hb1 hE1
 have hbs_b1 : w.heap.size ≤ b1 := Nat.le_trans hsz hzl1
 replace hB := below_ext hB hE1 hsz
 replace hsz := Nat.le_trans hsz hE1.size
 refine l_o (o_box rfl rfl rfl ?_)
 intro b2 w2 hzl2 hzr2 _ hb2 hE2
 have hne_b1_b2 : b1 ≠ b2 := by have := hb1.lt; omega
 have hbs_b2 : w.heap.size ≤ b2 := Nat.le_trans hsz hzl2
 replace hB := below_ext hB hE2 hsz
 replace hb1 := hb1.ext hE2
 replace hsz := Nat.le_trans hsz hE2.size
 refine l_o (o_box rfl rfl rfl ?_)
 intro b3 w3 hzl3 hzr3 _ hb3 hE3
 have hne_b1_b3 : b1 ≠ b3 := by have := hb1.lt; omega
 have hne_b2_b3 : b2 ≠ b3 := by have := hb2.lt; omega
 have hbs_b3 : w.heap.size ≤ b3 := Nat.le_trans hsz hzl3
 replace hB := below_ext hB hE3 hsz
 replace hb1 := hb1.ext hE3
 replace hb2 := hb2.ext hE3
 replace hsz := Nat.le_trans hsz hE3.size
 refine l_q (qab rfl rfl) (l_nil (r_seq (r_region' (l_q (q_load_agg (n := 6) Tryz.isAgg83 Tryz.sizeOf83 rfl ((hb1.cells' (cs' := [_, _, _, _, _, _]) 0 6 rfl)) rfl rfl) (l_o (o_call Tryz.call135 rfl (ends_ret k _) rfl ?_))))))
 rintro _ w4 ⟨rfl, hE4⟩
 replace hB := below_ext hB hE4 hsz
 replace hb1 := hb1.ext hE4
 replace hb2 := hb2.ext hE4
 replace hb3 := hb3.ext hE4
 replace hsz := Nat.le_trans hsz hE4.size
 refine l_q (q_move (v := .tuple _) rfl rfl) (l_q (q_extract (vs := [_, _]) (v := .agg _) rfl rfl rfl) (l_q (q_extract (vs := [_, _]) (v := .agg _) rfl rfl rfl) (l_o (o_alloc Tryz.zeroValue163 rfl rfl ?_))))
 intro b5 w5 hzl5 hzr5 _ hb5 hE5
 have hne_b1_b5 : b1 ≠ b5 := by have := hb1.lt; omega
 have hne_b2_b5 : b2 ≠ b5 := by have := hb2.lt; omega
 have hne_b3_b5 : b3 ≠ b5 := by have := hb3.lt; omega
 have hbs_b5 : w.heap.size ≤ b5 := Nat.le_trans hsz hzl5
 replace hB := below_ext hB hE5 hsz
 replace hb1 := hb1.ext hE5
 replace hb2 := hb2.ext hE5
 replace hb3 := hb3.ext hE5
 replace hsz := Nat.le_trans hsz hE5.size
 refine l_o (o_alloc Tryz.zeroValue163 rfl rfl ?_)
 intro b6 w6 hzl6 hzr6 _ hb6 hE6
 have hne_b1_b6 : b1 ≠ b6 := by have := hb1.lt; omega
 have hne_b2_b6 : b2 ≠ b6 := by have := hb2.lt; omega
 have hne_b3_b6 : b3 ≠ b6 := by have := hb3.lt; omega
 have hne_b5_b6 : b5 ≠ b6 := by have := hb5.lt; omega
 have hbs_b6 : w.heap.size ≤ b6 := Nat.le_trans hsz hzl6
 replace hB := below_ext hB hE6 hsz
 replace hb1 := hb1.ext hE6
 replace hb2 := hb2.ext hE6
 replace hb3 := hb3.ext hE6
 replace hb5 := hb5.ext hE6
 replace hsz := Nat.le_trans hsz hE6.size
 refine l_o (o_store (vs := [vint k.x1, vint k.y1]) (cs' := [vint k.x1, vint k.y1]) Tryz.sizeOf163 rfl rfl rfl rfl hb5 (Nat.le_of_ble_eq_true rfl) rfl rfl ?_)
 intro w7 hz7 hb5 hG7
 replace hB := below_upd hB hG7 hsz (by omega)
 replace hsz : w.heap.size ≤ w7.heap.size := by rw [hz7]; exact hsz
 replace hb1 := hb1.upd hG7 (by omega)
 replace hb2 := hb2.upd hG7 (by omega)
 replace hb3 := hb3.upd hG7 (by omega)
 replace hb6 := hb6.upd hG7 (by omega)
 refine l_o (o_store (vs := [vint k.x2, vint k.y2]) (cs' := [vint k.x2, vint k.y2]) Tryz.sizeOf163 rfl rfl rfl rfl hb6 (Nat.le_of_ble_eq_true rfl) rfl rfl ?_)
 intro w8 hz8 hb6 hG8
 replace hB := below_upd hB hG8 hsz (by omega)
 replace hsz : w.heap.size ≤ w8.heap.size := by rw [hz8]; exact hsz
 replace hb1 := hb1.upd hG8 (by omega)
 replace hb2 := hb2.upd hG8 (by omega)
 replace hb3 := hb3.upd hG8 (by omega)
 replace hb5 := hb5.upd hG8 (by omega)
 refine l_nil (r_seq (r_ifj (α := Nat × Nat) (fun ⟨q9, q10⟩ e wl => Knows e [(3, ptr b1 0), (4, ptr b2 0), (5, ptr b3 0), (7, ptr b5 0), (8, ptr b6 0), (9, ptr q9 0), (10, ptr q10 0)] ∧ (Blk wl q9 [vint a.x, vint a.y]) ∧ (Blk wl q10 [vint b.x, vint b.y]) ∧ (Blk wl b1 [vint k.x1, vint k.y1, vint k.x2, vint k.y2, vint k.ba, vint k.tp]) ∧ (Blk wl b2 [vint a.x, vint a.y, vint a.z, vint a.m]) ∧ (Blk wl b3 [vint b.x, vint b.y, vint b.z, vint b.m]) ∧ (Blk wl b5 [vint k.x1, vint k.y1]) ∧ (Blk wl b6 [vint k.x2, vint k.y2]) ∧ (w.heap.size ≤ wl.heap.size) ∧ (Below w.heap.size w wl)) ?_ ?_))
 ·
  rintro ⟨q9, q10⟩ el9 wl9 ⟨hkn, hq9, hq10, hb1, hb2, hb3, hb5, hb6, hsz, hB⟩
  obtain ⟨e9, rfl⟩ := knows_env hkn
  refine r_seq (r_draw ext_refl' ext_trans' [0, 1, 2, 4, 5, 6, 3, 7, 8, 9] [3, 7] 14 (by kernel_rfl) (by kernel_rfl) ?_)
  intro w10 _ hE10
  replace hB := below_ext hB hE10 hsz
  replace hb1 := hb1.ext hE10
  replace hb2 := hb2.ext hE10
  replace hb3 := hb3.ext hE10
  replace hb5 := hb5.ext hE10
  replace hb6 := hb6.ext hE10
  replace hq9 := hq9.ext hE10
  replace hq10 := hq10.ext hE10
  replace hsz := Nat.le_trans hsz hE10.size
  refine m_q rfl rfl (fun w' hC' => q_load_agg (n := 2) Tryz.isAgg163 Tryz.sizeOf163 rfl (((hb5.cells' (cs' := [_, _]) 0 2 rfl).ext hC')) rfl rfl) (m_q rfl rfl (fun w' hC' => q_load_agg (n := 2) Tryz.isAgg163 Tryz.sizeOf163 rfl (((hb6.cells' (cs' := [_, _]) 0 2 rfl).ext hC')) rfl rfl) (m_q rfl rfl (fun w' hC' => q_load_agg (n := 2) Tryz.isAgg163 Tryz.sizeOf163 rfl (((hq9.cells' (cs' := [_, _]) 0 2 rfl).ext hC')) rfl rfl) (m_q rfl rfl (fun w' hC' => q_load_agg (n := 2) Tryz.isAgg163 Tryz.sizeOf163 rfl (((hb5.cells' (cs' := [_, _]) 0 2 rfl).ext hC')) rfl rfl) (m_q rfl rfl (fun w' hC' => q_load_agg (n := 2) Tryz.isAgg163 Tryz.sizeOf163 rfl (((hb6.cells' (cs' := [_, _]) 0 2 rfl).ext hC')) rfl rfl) (m_q rfl rfl (fun w' hC' => q_load_agg (n := 2) Tryz.isAgg163 Tryz.sizeOf163 rfl (((hq10.cells' (cs' := [_, _]) 0 2 rfl).ext hC')) rfl rfl) ?_)))))
  refine m_o rfl rfl (o_call Tryz.call142 rfl (side_ret k.x1 k.y1 k.x2 k.y2 a.x a.y _ (by first | exact hma | exact hmb | exact hmp | exact hmq) (by first | exact hma | exact hmb | exact hmp | exact hmq) (by first | exact hma | exact hmb | exact hmp | exact hmq)) rfl ?_)
  rintro _ w11 ⟨rfl, hE11⟩
  refine ⟨hE11, ?_⟩
  replace hB := below_ext hB hE11 hsz
  replace hb1 := hb1.ext hE11
  replace hb2 := hb2.ext hE11
  replace hb3 := hb3.ext hE11
  replace hb5 := hb5.ext hE11
  replace hb6 := hb6.ext hE11
  replace hq9 := hq9.ext hE11
  replace hq10 := hq10.ext hE11
  replace hsz := Nat.le_trans hsz hE11.size
  refine m_o rfl rfl (o_call Tryz.call142 rfl (side_ret k.x1 k.y1 k.x2 k.y2 b.x b.y _ (by first | exact hma | exact hmb | exact hmp | exact hmq) (by first | exact hma | exact hmb | exact hmp | exact hmq) (by first | exact hma | exact hmb | exact hmp | exact hmq)) rfl ?_)
  rintro _ w12 ⟨rfl, hE12⟩
  refine ⟨hE12, ?_⟩
  replace hB := below_ext hB hE12 hsz
  replace hb1 := hb1.ext hE12
  replace hb2 := hb2.ext hE12
  replace hb3 := hb3.ext hE12
  replace hb5 := hb5.ext hE12
  replace hb6 := hb6.ext hE12
  replace hq9 := hq9.ext hE12
  replace hq10 := hq10.ext hE12
  replace hsz := Nat.le_trans hsz hE12.size
  refine m_q rfl rfl (fun w' hC' => qai rfl rfl) (m_q rfl rfl (fun w' hC' => qai rfl rfl) (m_nil (r_seq (r_seq (r_region' (l_q (qmi rfl rfl) (l_q (q_eql rfl rfl rfl) (l_q (qmb rfl rfl) (l_part 36 rfl (fun hc13 => ?_) (fun hc13 => ?_))))))))))
  ·
   replace hc13 := dt hc13
   refine l_q (q_skip rfl) (l_q (q_skip rfl) (l_q (q_pick_t (v := .bool _) rfl rfl rfl) (l_q (qmb rfl rfl) (l_q (q_skip rfl) (l_q (q_skip rfl) (l_q (q_skip rfl) (l_q (q_skip rfl) (l_q (q_skip rfl) (l_q (q_pick_t (v := .bool _) rfl rfl rfl) (l_nil (r_forget [(3, .pointer _), (4, .pointer _), (5, .pointer _), (7, .pointer _), (8, .pointer _), (9, .pointer _), (10, .pointer _), (11, .int _ _), (12, .int _ _), (46, .bool _)] ⟨rfl, rfl, rfl, rfl, rfl, rfl, rfl, rfl, rfl, rfl, trivial⟩ (fun e14 => (r_cond_t rfl (r_seq (r_region' (l_q (qab rfl rfl) (l_nil (r_forget [(6, .bool _)] ⟨rfl, trivial⟩ (fun e15 => (r_ret_ (vs := [.bool _]) rfl Tryz.func108 rfl (.nil _) ⟨rfl, trivial⟩ ?_))))))))))))))))))))
   exact ⟨vbool_eq (by simp only [blkF]; simp_all <;> first | omega | (rw [Bool.eq_iff_iff]; simp only [Bool.and_eq_true, Bool.or_eq_true, Bool.not_eq_true', decide_eq_true_eq, decide_eq_false_iff_not]; omega)), Ext.of_below hB⟩
  ·
   replace hc13 := df hc13
   refine l_q (qmi rfl rfl) (l_q (q_eql rfl rfl rfl) (l_q (q_pick_f (v := .bool _) rfl rfl rfl) (l_q (qmb rfl rfl) (l_part 40 rfl (fun hc16 => ?_) (fun hc16 => ?_)))))
   ·
    replace hc16 := dt hc16
    refine l_q (q_skip rfl) (l_q (q_skip rfl) (l_q (q_skip rfl) (l_q (q_skip rfl) (l_q (q_skip rfl) (l_q (q_pick_t (v := .bool _) rfl rfl rfl) (l_nil (r_forget [(3, .pointer _), (4, .pointer _), (5, .pointer _), (7, .pointer _), (8, .pointer _), (9, .pointer _), (10, .pointer _), (11, .int _ _), (12, .int _ _), (46, .bool _)] ⟨rfl, rfl, rfl, rfl, rfl, rfl, rfl, rfl, rfl, rfl, trivial⟩ (fun e17 => (r_cond_t rfl (r_seq (r_region' (l_q (qab rfl rfl) (l_nil (r_forget [(6, .bool _)] ⟨rfl, trivial⟩ (fun e18 => (r_ret_ (vs := [.bool _]) rfl Tryz.func108 rfl (.nil _) ⟨rfl, trivial⟩ ?_))))))))))))))))
    exact ⟨vbool_eq (by simp only [blkF]; simp_all <;> first | omega | (rw [Bool.eq_iff_iff]; simp only [Bool.and_eq_true, Bool.or_eq_true, Bool.not_eq_true', decide_eq_true_eq, decide_eq_false_iff_not]; omega)), Ext.of_below hB⟩
   ·
    replace hc16 := df hc16
    refine l_q (qmi rfl rfl) (l_q (q_gtr rfl rfl rfl) (l_q (qmi rfl rfl) (l_q (q_gtr rfl rfl rfl) (l_q (q_eql_bool Tryz.underlying4 rfl rfl rfl) (l_q (q_pick_f (v := .bool _) rfl rfl rfl) (l_nil (r_forget [(3, .pointer _), (4, .pointer _), (5, .pointer _), (7, .pointer _), (8, .pointer _), (9, .pointer _), (10, .pointer _), (11, .int _ _), (12, .int _ _), (46, .bool _)] ⟨rfl, rfl, rfl, rfl, rfl, rfl, rfl, rfl, rfl, rfl, trivial⟩ (fun e19 => (r_cond rfl (fun hc20 => ?_) (fun hc20 => ?_))))))))))
    ·
     try simp only [decide_eq_true_eq, decide_eq_false_iff_not, Bool.not_eq_true', Bool.not_eq_false', Bool.not_not, Bool.not_true, Bool.not_false, Bool.not_eq_true, Bool.not_eq_false, Int.not_lt, Int.not_le, Bool.and_eq_true, Bool.or_eq_true, Bool.and_eq_false_iff, Bool.or_eq_false_iff] at hc20
     refine r_seq (r_region' (l_q (qab rfl rfl) (l_nil (r_forget [(6, .bool _)] ⟨rfl, trivial⟩ (fun e21 => (r_ret_ (vs := [.bool _]) rfl Tryz.func108 rfl (.nil _) ⟨rfl, trivial⟩ ?_))))))
     exact ⟨vbool_eq (by simp only [blkF]; simp_all <;> first | omega | (rw [Bool.eq_iff_iff]; simp only [Bool.and_eq_true, Bool.or_eq_true, Bool.not_eq_true', decide_eq_true_eq, decide_eq_false_iff_not]; omega)), Ext.of_below hB⟩
    ·
     try simp only [decide_eq_true_eq, decide_eq_false_iff_not, Bool.not_eq_true', Bool.not_eq_false', Bool.not_not, Bool.not_true, Bool.not_false, Bool.not_eq_true, Bool.not_eq_false, Int.not_lt, Int.not_le, Bool.and_eq_true, Bool.or_eq_true, Bool.and_eq_false_iff, Bool.or_eq_false_iff] at hc20
     refine r_skip (r_seq (r_seq (r_draw ext_refl' ext_trans' [0, 1, 2, 4, 5, 6, 3, 7, 8, 9] [3, 7] 14 (by kernel_rfl) (by kernel_rfl) ?_)))
     intro w22 _ hE22
     replace hB := below_ext hB hE22 hsz
     replace hb1 := hb1.ext hE22
     replace hb2 := hb2.ext hE22
     replace hb3 := hb3.ext hE22
     replace hb5 := hb5.ext hE22
     replace hb6 := hb6.ext hE22
     replace hq9 := hq9.ext hE22
     replace hq10 := hq10.ext hE22
     replace hsz := Nat.le_trans hsz hE22.size
     refine m_q rfl rfl (fun w' hC' => q_load_agg (n := 2) Tryz.isAgg163 Tryz.sizeOf163 rfl (((hq9.cells' (cs' := [_, _]) 0 2 rfl).ext hC')) rfl rfl) (m_q rfl rfl (fun w' hC' => q_load_agg (n := 2) Tryz.isAgg163 Tryz.sizeOf163 rfl (((hq10.cells' (cs' := [_, _]) 0 2 rfl).ext hC')) rfl rfl) (m_q rfl rfl (fun w' hC' => q_load_agg (n := 2) Tryz.isAgg163 Tryz.sizeOf163 rfl (((hb5.cells' (cs' := [_, _]) 0 2 rfl).ext hC')) rfl rfl) (m_q rfl rfl (fun w' hC' => q_load_agg (n := 2) Tryz.isAgg163 Tryz.sizeOf163 rfl (((hq9.cells' (cs' := [_, _]) 0 2 rfl).ext hC')) rfl rfl) (m_q rfl rfl (fun w' hC' => q_load_agg (n := 2) Tryz.isAgg163 Tryz.sizeOf163 rfl (((hq10.cells' (cs' := [_, _]) 0 2 rfl).ext hC')) rfl rfl) (m_q rfl rfl (fun w' hC' => q_load_agg (n := 2) Tryz.isAgg163 Tryz.sizeOf163 rfl (((hb6.cells' (cs' := [_, _]) 0 2 rfl).ext hC')) rfl rfl) ?_)))))
     refine m_o rfl rfl (o_call Tryz.call142 rfl (side_ret a.x a.y b.x b.y k.x1 k.y1 _ (by first | exact hma | exact hmb | exact hmp | exact hmq) (by first | exact hma | exact hmb | exact hmp | exact hmq) (by first | exact hma | exact hmb | exact hmp | exact hmq)) rfl ?_)
     rintro _ w23 ⟨rfl, hE23⟩
     refine ⟨hE23, ?_⟩
     replace hB := below_ext hB hE23 hsz
     replace hb1 := hb1.ext hE23
     replace hb2 := hb2.ext hE23
     replace hb3 := hb3.ext hE23
     replace hb5 := hb5.ext hE23
     replace hb6 := hb6.ext hE23
     replace hq9 := hq9.ext hE23
     replace hq10 := hq10.ext hE23
     replace hsz := Nat.le_trans hsz hE23.size
     refine m_o rfl rfl (o_call Tryz.call142 rfl (side_ret a.x a.y b.x b.y k.x2 k.y2 _ (by first | exact hma | exact hmb | exact hmp | exact hmq) (by first | exact hma | exact hmb | exact hmp | exact hmq) (by first | exact hma | exact hmb | exact hmp | exact hmq)) rfl ?_)
     rintro _ w24 ⟨rfl, hE24⟩
     refine ⟨hE24, ?_⟩
     replace hB := below_ext hB hE24 hsz
     replace hb1 := hb1.ext hE24
     replace hb2 := hb2.ext hE24
     replace hb3 := hb3.ext hE24
     replace hb5 := hb5.ext hE24
     replace hb6 := hb6.ext hE24
     replace hq9 := hq9.ext hE24
     replace hq10 := hq10.ext hE24
     replace hsz := Nat.le_trans hsz hE24.size
     refine m_q rfl rfl (fun w' hC' => qai rfl rfl) (m_q rfl rfl (fun w' hC' => qai rfl rfl) (m_nil (r_forget [(3, .pointer _), (4, .pointer _), (5, .pointer _), (11, .int _ _), (12, .int _ _), (13, .int _ _), (14, .int _ _)] ⟨rfl, rfl, rfl, rfl, rfl, rfl, rfl, trivial⟩ (fun e25 => (r_seq (r_region' (l_q (qmi rfl rfl) (l_q (q_gtr rfl rfl rfl) (l_q (qmb rfl rfl) (l_part 57 rfl (fun hc26 => ?_) (fun hc26 => ?_)))))))))))
     ·
      replace hc26 := dt hc26
      refine l_q (qmi rfl rfl) (l_q (q_gtr rfl rfl rfl) (l_q (q_pick_t (v := .bool _) rfl rfl rfl) (l_q (qmb rfl rfl) (l_part 61 rfl (fun hc27 => ?_) (fun hc27 => ?_)))))
      ·
       replace hc27 := dt hc27
       refine l_q (q_skip rfl) (l_q (q_skip rfl) (l_q (q_skip rfl) (l_q (q_skip rfl) (l_q (q_skip rfl) (l_q (q_skip rfl) (l_q (q_pick_t (v := .bool _) rfl rfl rfl) (l_nil (r_forget [(3, .pointer _), (4, .pointer _), (5, .pointer _), (11, .int _ _), (12, .int _ _), (68, .bool _)] ⟨rfl, rfl, rfl, rfl, rfl, rfl, trivial⟩ (fun e28 => (r_cond_t rfl (r_seq (r_region' (l_q (qab rfl rfl) (l_nil (r_ret_ (vs := [.bool _]) rfl Tryz.func108 rfl (.nil _) ⟨rfl, trivial⟩ ?_)))))))))))))))
       exact ⟨vbool_eq (by simp only [blkF]; simp_all <;> first | omega | (rw [Bool.eq_iff_iff]; simp only [Bool.and_eq_true, Bool.or_eq_true, Bool.not_eq_true', decide_eq_true_eq, decide_eq_false_iff_not]; omega)), Ext.of_below hB⟩
      ·
       replace hc27 := dlt hc27
       refine l_q (qmi rfl rfl) (l_q (q_lss rfl rfl rfl) (l_q (qmb rfl rfl) (l_part 64 rfl (fun hc29 => ?_) (fun hc29 => ?_))))
       ·
        replace hc29 := dt hc29
        refine l_q (qmi rfl rfl) (l_q (q_lss rfl rfl rfl) (l_q (q_pick_t (v := .bool _) rfl rfl rfl) (l_q (q_pick_f (v := .bool _) rfl rfl rfl) (l_nil (r_forget [(3, .pointer _), (4, .pointer _), (5, .pointer _), (11, .int _ _), (12, .int _ _), (68, .bool _)] ⟨rfl, rfl, rfl, rfl, rfl, rfl, trivial⟩ (fun e30 => (r_cond rfl (fun hc31 => ?_) (fun hc31 => ?_))))))))
        ·
         replace hc31 := dt hc31
         refine r_seq (r_region' (l_q (qab rfl rfl) (l_nil (r_ret_ (vs := [.bool _]) rfl Tryz.func108 rfl (.nil _) ⟨rfl, trivial⟩ ?_))))
         exact ⟨vbool_eq (by simp only [blkF]; simp_all <;> first | omega | (rw [Bool.eq_iff_iff]; simp only [Bool.and_eq_true, Bool.or_eq_true, Bool.not_eq_true', decide_eq_true_eq, decide_eq_false_iff_not]; omega)), Ext.of_below hB⟩
        ·
         replace hc31 := dlt hc31
         refine r_skip (r_seq (r_region' (l_q (qmi rfl rfl) (l_o (o_call Tryz.call143 rfl (abs_ret (sd k.x1 k.y1 k.x2 k.y2 a.x a.y) _ (sd_le (by assumption) (by assumption) (by assumption))) rfl ?_)))))
         rintro _ w32 ⟨rfl, rfl⟩
         refine l_q (qmi rfl rfl) (l_o (o_call Tryz.call143 rfl (abs_ret (sd k.x1 k.y1 k.x2 k.y2 b.x b.y) _ (sd_le (by assumption) (by assumption) (by assumption))) rfl ?_))
         rintro _ w33 ⟨rfl, rfl⟩
         refine l_q (qai rfl rfl) (l_q (qai rfl rfl) (l_nil (r_seq (r_region' (l_q (q_build (v := .agg ⟨[.func (.func 144) ⟨[]⟩ ⟨[]⟩]⟩) (fun w => by kernel_rfl) rfl) (l_q (q_build (v := .agg ⟨[.func (.func 145) ⟨[]⟩ ⟨[]⟩]⟩) (fun w => by kernel_rfl) rfl) (l_o (o_alloc Tryz.zeroValue204 rfl rfl ?_))))))))
         intro b34 w34 hzl34 hzr34 _ hb34 hE34
         have hne_b1_b34 : b1 ≠ b34 := by have := hb1.lt; omega
         have hne_b2_b34 : b2 ≠ b34 := by have := hb2.lt; omega
         have hne_b3_b34 : b3 ≠ b34 := by have := hb3.lt; omega
         have hne_b5_b34 : b5 ≠ b34 := by have := hb5.lt; omega
         have hne_b6_b34 : b6 ≠ b34 := by have := hb6.lt; omega
         have hne_q9_b34 : q9 ≠ b34 := by have := hq9.lt; omega
         have hne_q10_b34 : q10 ≠ b34 := by have := hq10.lt; omega
         have hbs_b34 : w.heap.size ≤ b34 := Nat.le_trans hsz hzl34
         replace hB := below_ext hB hE34 hsz
         replace hb1 := hb1.ext hE34
         replace hb2 := hb2.ext hE34
         replace hb3 := hb3.ext hE34
         replace hb5 := hb5.ext hE34
         replace hb6 := hb6.ext hE34
         replace hq9 := hq9.ext hE34
         replace hq10 := hq10.ext hE34
         replace hsz := Nat.le_trans hsz hE34.size
         refine l_o (o_alloc Tryz.zeroValue204 rfl rfl ?_)
         intro b35 w35 hzl35 hzr35 _ hb35 hE35
         have hne_b1_b35 : b1 ≠ b35 := by have := hb1.lt; omega
         have hne_b2_b35 : b2 ≠ b35 := by have := hb2.lt; omega
         have hne_b3_b35 : b3 ≠ b35 := by have := hb3.lt; omega
         have hne_b5_b35 : b5 ≠ b35 := by have := hb5.lt; omega
         have hne_b6_b35 : b6 ≠ b35 := by have := hb6.lt; omega
         have hne_q9_b35 : q9 ≠ b35 := by have := hq9.lt; omega
         have hne_q10_b35 : q10 ≠ b35 := by have := hq10.lt; omega
         have hne_b34_b35 : b34 ≠ b35 := by have := hb34.lt; omega
         have hbs_b35 : w.heap.size ≤ b35 := Nat.le_trans hsz hzl35
         replace hB := below_ext hB hE35 hsz
         replace hb1 := hb1.ext hE35
         replace hb2 := hb2.ext hE35
         replace hb3 := hb3.ext hE35
         replace hb5 := hb5.ext hE35
         replace hb6 := hb6.ext hE35
         replace hq9 := hq9.ext hE35
         replace hq10 := hq10.ext hE35
         replace hb34 := hb34.ext hE35
         replace hsz := Nat.le_trans hsz hE35.size
         refine l_o (o_store (vs := [.func (.func 144) ⟨[]⟩ ⟨[]⟩]) (cs' := [.func (.func 144) ⟨[]⟩ ⟨[]⟩]) Tryz.sizeOf204 rfl rfl rfl rfl hb34 (Nat.le_of_ble_eq_true rfl) rfl rfl ?_)
         intro w36 hz36 hb34 hG36
         replace hB := below_upd hB hG36 hsz (by omega)
         replace hsz : w.heap.size ≤ w36.heap.size := by rw [hz36]; exact hsz
         replace hb1 := hb1.upd hG36 (by omega)
         replace hb2 := hb2.upd hG36 (by omega)
         replace hb3 := hb3.upd hG36 (by omega)
         replace hb5 := hb5.upd hG36 (by omega)
         replace hb6 := hb6.upd hG36 (by omega)
         replace hq9 := hq9.upd hG36 (by omega)
         replace hq10 := hq10.upd hG36 (by omega)
         replace hb35 := hb35.upd hG36 (by omega)
         refine l_o (o_store (vs := [.func (.func 145) ⟨[]⟩ ⟨[]⟩]) (cs' := [.func (.func 145) ⟨[]⟩ ⟨[]⟩]) Tryz.sizeOf204 rfl rfl rfl rfl hb35 (Nat.le_of_ble_eq_true rfl) rfl rfl ?_)
         intro w37 hz37 hb35 hG37
         replace hB := below_upd hB hG37 hsz (by omega)
         replace hsz : w.heap.size ≤ w37.heap.size := by rw [hz37]; exact hsz
         replace hb1 := hb1.upd hG37 (by omega)
         replace hb2 := hb2.upd hG37 (by omega)
         replace hb3 := hb3.upd hG37 (by omega)
         replace hb5 := hb5.upd hG37 (by omega)
         replace hb6 := hb6.upd hG37 (by omega)
         replace hq9 := hq9.upd hG37 (by omega)
         replace hq10 := hq10.upd hG37 (by omega)
         replace hb34 := hb34.upd hG37 (by omega)
         refine l_nil (r_seq (r_region' (l_q (q_load_agg (n := 1) Tryz.isAgg204 Tryz.sizeOf204 rfl ((hb34.cells' (cs' := [_]) 0 1 rfl)) rfl rfl) (l_q (q_load_agg (n := 6) Tryz.isAgg83 Tryz.sizeOf83 rfl ((hb1.cells' (cs' := [_, _, _, _, _, _]) 0 6 rfl)) rfl rfl) (l_q (q_load_agg (n := 4) Tryz.isAgg72 Tryz.sizeOf72 rfl ((hb2.cells' (cs' := [_, _, _, _]) 0 4 rfl)) rfl rfl) (l_q (q_load_agg (n := 4) Tryz.isAgg72 Tryz.sizeOf72 rfl ((hb3.cells' (cs' := [_, _, _, _]) 0 4 rfl)) rfl rfl) (l_q (qmi rfl rfl) (l_q (qmi rfl rfl) (l_o (o_call Tryz.call146 rfl (above_base_ret k a b (ab (sd k.x1 k.y1 k.x2 k.y2 a.x a.y)) (ab (sd k.x1 k.y1 k.x2 k.y2 b.x b.y)) _ hza hzb hzk (ab_le hsf) (ab_le hso)) rfl ?_))))))))))
         rintro _ w38 ⟨rfl, hE38⟩
         replace hB := below_ext hB hE38 hsz
         replace hb1 := hb1.ext hE38
         replace hb2 := hb2.ext hE38
         replace hb3 := hb3.ext hE38
         replace hb5 := hb5.ext hE38
         replace hb6 := hb6.ext hE38
         replace hq9 := hq9.ext hE38
         replace hq10 := hq10.ext hE38
         replace hb35 := hb35.ext hE38
         replace hsz := Nat.le_trans hsz hE38.size
         refine l_q (q_geq rfl rfl rfl) (l_q (qmb rfl rfl) (l_part 83 rfl (fun hc39 => ?_) (fun hc39 => ?_)))
         ·
          replace hc39 := dt hc39
          refine l_q (q_load_agg (n := 1) Tryz.isAgg204 Tryz.sizeOf204 rfl ((hb35.cells' (cs' := [_]) 0 1 rfl)) rfl rfl) (l_q (q_load_agg (n := 6) Tryz.isAgg83 Tryz.sizeOf83 rfl ((hb1.cells' (cs' := [_, _, _, _, _, _]) 0 6 rfl)) rfl rfl) (l_q (q_load_agg (n := 4) Tryz.isAgg72 Tryz.sizeOf72 rfl ((hb2.cells' (cs' := [_, _, _, _]) 0 4 rfl)) rfl rfl) (l_q (q_load_agg (n := 4) Tryz.isAgg72 Tryz.sizeOf72 rfl ((hb3.cells' (cs' := [_, _, _, _]) 0 4 rfl)) rfl rfl) (l_q (qmi rfl rfl) (l_q (qmi rfl rfl) (l_o (o_call Tryz.call146 rfl (above_top_ret k a b (ab (sd k.x1 k.y1 k.x2 k.y2 a.x a.y)) (ab (sd k.x1 k.y1 k.x2 k.y2 b.x b.y)) _ hza hzb hzk (ab_le hsf) (ab_le hso)) rfl ?_)))))))
          rintro _ w40 ⟨rfl, hE40⟩
          replace hB := below_ext hB hE40 hsz
          replace hb1 := hb1.ext hE40
          replace hb2 := hb2.ext hE40
          replace hb3 := hb3.ext hE40
          replace hb5 := hb5.ext hE40
          replace hb6 := hb6.ext hE40
          replace hq9 := hq9.ext hE40
          replace hq10 := hq10.ext hE40
          replace hsz := Nat.le_trans hsz hE40.size
          refine l_q (q_leq rfl rfl rfl) (l_q (q_pick_t (v := .bool _) rfl rfl rfl) (l_q (qab rfl rfl) (l_nil (r_forget [(6, .bool _)] ⟨rfl, trivial⟩ (fun e41 => (r_ret_ (vs := [.bool _]) rfl Tryz.func108 rfl (.nil _) ⟨rfl, trivial⟩ ?_))))))
          exact ⟨vbool_eq (by simp only [blkF]; simp_all <;> first | omega | (rw [Bool.eq_iff_iff]; simp only [Bool.and_eq_true, Bool.or_eq_true, Bool.not_eq_true', decide_eq_true_eq, decide_eq_false_iff_not]; omega)), Ext.of_below hB⟩
         ·
          replace hc39 := dle hc39
          refine l_q (q_skip rfl) (l_q (q_skip rfl) (l_q (q_skip rfl) (l_q (q_skip rfl) (l_q (q_skip rfl) (l_q (q_skip rfl) (l_q (q_skip rfl) (l_q (q_skip rfl) (l_q (q_pick_f (v := .bool _) rfl rfl rfl) (l_q (qab rfl rfl) (l_nil (r_forget [(6, .bool _)] ⟨rfl, trivial⟩ (fun e42 => (r_ret_ (vs := [.bool _]) rfl Tryz.func108 rfl (.nil _) ⟨rfl, trivial⟩ ?_)))))))))))))
          exact ⟨vbool_eq (by simp only [blkF]; simp_all <;> first | omega | (rw [Bool.eq_iff_iff]; simp only [Bool.and_eq_true, Bool.or_eq_true, Bool.not_eq_true', decide_eq_true_eq, decide_eq_false_iff_not]; omega)), Ext.of_below hB⟩
       ·
        replace hc29 := dlt hc29
        refine l_q (q_skip rfl) (l_q (q_skip rfl) (l_q (q_pick_f (v := .bool _) rfl rfl rfl) (l_q (q_pick_f (v := .bool _) rfl rfl rfl) (l_nil (r_forget [(3, .pointer _), (4, .pointer _), (5, .pointer _), (11, .int _ _), (12, .int _ _), (68, .bool _)] ⟨rfl, rfl, rfl, rfl, rfl, rfl, trivial⟩ (fun e43 => (r_cond_f rfl (r_skip (r_seq (r_region' (l_q (qmi rfl rfl) (l_o (o_call Tryz.call143 rfl (abs_ret (sd k.x1 k.y1 k.x2 k.y2 a.x a.y) _ (sd_le (by assumption) (by assumption) (by assumption))) rfl ?_)))))))))))))
        rintro _ w44 ⟨rfl, rfl⟩
        refine l_q (qmi rfl rfl) (l_o (o_call Tryz.call143 rfl (abs_ret (sd k.x1 k.y1 k.x2 k.y2 b.x b.y) _ (sd_le (by assumption) (by assumption) (by assumption))) rfl ?_))
        rintro _ w45 ⟨rfl, rfl⟩
        refine l_q (qai rfl rfl) (l_q (qai rfl rfl) (l_nil (r_seq (r_region' (l_q (q_build (v := .agg ⟨[.func (.func 144) ⟨[]⟩ ⟨[]⟩]⟩) (fun w => by kernel_rfl) rfl) (l_q (q_build (v := .agg ⟨[.func (.func 145) ⟨[]⟩ ⟨[]⟩]⟩) (fun w => by kernel_rfl) rfl) (l_o (o_alloc Tryz.zeroValue204 rfl rfl ?_))))))))
        intro b46 w46 hzl46 hzr46 _ hb46 hE46
        have hne_b1_b46 : b1 ≠ b46 := by have := hb1.lt; omega
        have hne_b2_b46 : b2 ≠ b46 := by have := hb2.lt; omega
        have hne_b3_b46 : b3 ≠ b46 := by have := hb3.lt; omega
        have hne_b5_b46 : b5 ≠ b46 := by have := hb5.lt; omega
        have hne_b6_b46 : b6 ≠ b46 := by have := hb6.lt; omega
        have hne_q9_b46 : q9 ≠ b46 := by have := hq9.lt; omega
        have hne_q10_b46 : q10 ≠ b46 := by have := hq10.lt; omega
        have hbs_b46 : w.heap.size ≤ b46 := Nat.le_trans hsz hzl46
        replace hB := below_ext hB hE46 hsz
        replace hb1 := hb1.ext hE46
        replace hb2 := hb2.ext hE46
        replace hb3 := hb3.ext hE46
        replace hb5 := hb5.ext hE46
        replace hb6 := hb6.ext hE46
        replace hq9 := hq9.ext hE46
        replace hq10 := hq10.ext hE46
        replace hsz := Nat.le_trans hsz hE46.size
        refine l_o (o_alloc Tryz.zeroValue204 rfl rfl ?_)
        intro b47 w47 hzl47 hzr47 _ hb47 hE47
        have hne_b1_b47 : b1 ≠ b47 := by have := hb1.lt; omega
        have hne_b2_b47 : b2 ≠ b47 := by have := hb2.lt; omega
        have hne_b3_b47 : b3 ≠ b47 := by have := hb3.lt; omega
        have hne_b5_b47 : b5 ≠ b47 := by have := hb5.lt; omega
        have hne_b6_b47 : b6 ≠ b47 := by have := hb6.lt; omega
        have hne_q9_b47 : q9 ≠ b47 := by have := hq9.lt; omega
        have hne_q10_b47 : q10 ≠ b47 := by have := hq10.lt; omega
        have hne_b46_b47 : b46 ≠ b47 := by have := hb46.lt; omega
        have hbs_b47 : w.heap.size ≤ b47 := Nat.le_trans hsz hzl47
        replace hB := below_ext hB hE47 hsz
        replace hb1 := hb1.ext hE47
        replace hb2 := hb2.ext hE47
        replace hb3 := hb3.ext hE47
        replace hb5 := hb5.ext hE47
        replace hb6 := hb6.ext hE47
        replace hq9 := hq9.ext hE47
        replace hq10 := hq10.ext hE47
        replace hb46 := hb46.ext hE47
        replace hsz := Nat.le_trans hsz hE47.size
        refine l_o (o_store (vs := [.func (.func 144) ⟨[]⟩ ⟨[]⟩]) (cs' := [.func (.func 144) ⟨[]⟩ ⟨[]⟩]) Tryz.sizeOf204 rfl rfl rfl rfl hb46 (Nat.le_of_ble_eq_true rfl) rfl rfl ?_)
        intro w48 hz48 hb46 hG48
        replace hB := below_upd hB hG48 hsz (by omega)
        replace hsz : w.heap.size ≤ w48.heap.size := by rw [hz48]; exact hsz
        replace hb1 := hb1.upd hG48 (by omega)
        replace hb2 := hb2.upd hG48 (by omega)
        replace hb3 := hb3.upd hG48 (by omega)
        replace hb5 := hb5.upd hG48 (by omega)
        replace hb6 := hb6.upd hG48 (by omega)
        replace hq9 := hq9.upd hG48 (by omega)
        replace hq10 := hq10.upd hG48 (by omega)
        replace hb47 := hb47.upd hG48 (by omega)
        refine l_o (o_store (vs := [.func (.func 145) ⟨[]⟩ ⟨[]⟩]) (cs' := [.func (.func 145) ⟨[]⟩ ⟨[]⟩]) Tryz.sizeOf204 rfl rfl rfl rfl hb47 (Nat.le_of_ble_eq_true rfl) rfl rfl ?_)
        intro w49 hz49 hb47 hG49
        replace hB := below_upd hB hG49 hsz (by omega)
        replace hsz : w.heap.size ≤ w49.heap.size := by rw [hz49]; exact hsz
        replace hb1 := hb1.upd hG49 (by omega)
        replace hb2 := hb2.upd hG49 (by omega)
        replace hb3 := hb3.upd hG49 (by omega)
        replace hb5 := hb5.upd hG49 (by omega)
        replace hb6 := hb6.upd hG49 (by omega)
        replace hq9 := hq9.upd hG49 (by omega)
        replace hq10 := hq10.upd hG49 (by omega)
        replace hb46 := hb46.upd hG49 (by omega)
        refine l_nil (r_seq (r_region' (l_q (q_load_agg (n := 1) Tryz.isAgg204 Tryz.sizeOf204 rfl ((hb46.cells' (cs' := [_]) 0 1 rfl)) rfl rfl) (l_q (q_load_agg (n := 6) Tryz.isAgg83 Tryz.sizeOf83 rfl ((hb1.cells' (cs' := [_, _, _, _, _, _]) 0 6 rfl)) rfl rfl) (l_q (q_load_agg (n := 4) Tryz.isAgg72 Tryz.sizeOf72 rfl ((hb2.cells' (cs' := [_, _, _, _]) 0 4 rfl)) rfl rfl) (l_q (q_load_agg (n := 4) Tryz.isAgg72 Tryz.sizeOf72 rfl ((hb3.cells' (cs' := [_, _, _, _]) 0 4 rfl)) rfl rfl) (l_q (qmi rfl rfl) (l_q (qmi rfl rfl) (l_o (o_call Tryz.call146 rfl (above_base_ret k a b (ab (sd k.x1 k.y1 k.x2 k.y2 a.x a.y)) (ab (sd k.x1 k.y1 k.x2 k.y2 b.x b.y)) _ hza hzb hzk (ab_le hsf) (ab_le hso)) rfl ?_))))))))))
        rintro _ w50 ⟨rfl, hE50⟩
        replace hB := below_ext hB hE50 hsz
        replace hb1 := hb1.ext hE50
        replace hb2 := hb2.ext hE50
        replace hb3 := hb3.ext hE50
        replace hb5 := hb5.ext hE50
        replace hb6 := hb6.ext hE50
        replace hq9 := hq9.ext hE50
        replace hq10 := hq10.ext hE50
        replace hb47 := hb47.ext hE50
        replace hsz := Nat.le_trans hsz hE50.size
        refine l_q (q_geq rfl rfl rfl) (l_q (qmb rfl rfl) (l_part 83 rfl (fun hc51 => ?_) (fun hc51 => ?_)))
        ·
         replace hc51 := dt hc51
         refine l_q (q_load_agg (n := 1) Tryz.isAgg204 Tryz.sizeOf204 rfl ((hb47.cells' (cs' := [_]) 0 1 rfl)) rfl rfl) (l_q (q_load_agg (n := 6) Tryz.isAgg83 Tryz.sizeOf83 rfl ((hb1.cells' (cs' := [_, _, _, _, _, _]) 0 6 rfl)) rfl rfl) (l_q (q_load_agg (n := 4) Tryz.isAgg72 Tryz.sizeOf72 rfl ((hb2.cells' (cs' := [_, _, _, _]) 0 4 rfl)) rfl rfl) (l_q (q_load_agg (n := 4) Tryz.isAgg72 Tryz.sizeOf72 rfl ((hb3.cells' (cs' := [_, _, _, _]) 0 4 rfl)) rfl rfl) (l_q (qmi rfl rfl) (l_q (qmi rfl rfl) (l_o (o_call Tryz.call146 rfl (above_top_ret k a b (ab (sd k.x1 k.y1 k.x2 k.y2 a.x a.y)) (ab (sd k.x1 k.y1 k.x2 k.y2 b.x b.y)) _ hza hzb hzk (ab_le hsf) (ab_le hso)) rfl ?_)))))))
         rintro _ w52 ⟨rfl, hE52⟩
         replace hB := below_ext hB hE52 hsz
         replace hb1 := hb1.ext hE52
         replace hb2 := hb2.ext hE52
         replace hb3 := hb3.ext hE52
         replace hb5 := hb5.ext hE52
         replace hb6 := hb6.ext hE52
         replace hq9 := hq9.ext hE52
         replace hq10 := hq10.ext hE52
         replace hsz := Nat.le_trans hsz hE52.size
         refine l_q (q_leq rfl rfl rfl) (l_q (q_pick_t (v := .bool _) rfl rfl rfl) (l_q (qab rfl rfl) (l_nil (r_forget [(6, .bool _)] ⟨rfl, trivial⟩ (fun e53 => (r_ret_ (vs := [.bool _]) rfl Tryz.func108 rfl (.nil _) ⟨rfl, trivial⟩ ?_))))))
         exact ⟨vbool_eq (by simp only [blkF]; simp_all <;> first | omega | (rw [Bool.eq_iff_iff]; simp only [Bool.and_eq_true, Bool.or_eq_true, Bool.not_eq_true', decide_eq_true_eq, decide_eq_false_iff_not]; omega)), Ext.of_below hB⟩
        ·
         replace hc51 := dle hc51
         refine l_q (q_skip rfl) (l_q (q_skip rfl) (l_q (q_skip rfl) (l_q (q_skip rfl) (l_q (q_skip rfl) (l_q (q_skip rfl) (l_q (q_skip rfl) (l_q (q_skip rfl) (l_q (q_pick_f (v := .bool _) rfl rfl rfl) (l_q (qab rfl rfl) (l_nil (r_forget [(6, .bool _)] ⟨rfl, trivial⟩ (fun e54 => (r_ret_ (vs := [.bool _]) rfl Tryz.func108 rfl (.nil _) ⟨rfl, trivial⟩ ?_)))))))))))))
         exact ⟨vbool_eq (by simp only [blkF]; simp_all <;> first | omega | (rw [Bool.eq_iff_iff]; simp only [Bool.and_eq_true, Bool.or_eq_true, Bool.not_eq_true', decide_eq_true_eq, decide_eq_false_iff_not]; omega)), Ext.of_below hB⟩
     ·
      replace hc26 := dlt hc26
      refine l_q (q_skip rfl) (l_q (q_skip rfl) (l_q (q_pick_f (v := .bool _) rfl rfl rfl) (l_q (qmb rfl rfl) (l_q (qmi rfl rfl) (l_q (q_lss rfl rfl rfl) (l_q (qmb rfl rfl) (l_part 64 rfl (fun hc55 => ?_) (fun hc55 => ?_))))))))
      ·
       replace hc55 := dt hc55
       refine l_q (qmi rfl rfl) (l_q (q_lss rfl rfl rfl) (l_q (q_pick_t (v := .bool _) rfl rfl rfl) (l_q (q_pick_f (v := .bool _) rfl rfl rfl) (l_nil (r_forget [(3, .pointer _), (4, .pointer _), (5, .pointer _), (11, .int _ _), (12, .int _ _), (68, .bool _)] ⟨rfl, rfl, rfl, rfl, rfl, rfl, trivial⟩ (fun e56 => (r_cond rfl (fun hc57 => ?_) (fun hc57 => ?_))))))))
       ·
        replace hc57 := dt hc57
        refine r_seq (r_region' (l_q (qab rfl rfl) (l_nil (r_ret_ (vs := [.bool _]) rfl Tryz.func108 rfl (.nil _) ⟨rfl, trivial⟩ ?_))))
        exact ⟨vbool_eq (by simp only [blkF]; simp_all <;> first | omega | (rw [Bool.eq_iff_iff]; simp only [Bool.and_eq_true, Bool.or_eq_true, Bool.not_eq_true', decide_eq_true_eq, decide_eq_false_iff_not]; omega)), Ext.of_below hB⟩
       ·
        replace hc57 := dlt hc57
        refine r_skip (r_seq (r_region' (l_q (qmi rfl rfl) (l_o (o_call Tryz.call143 rfl (abs_ret (sd k.x1 k.y1 k.x2 k.y2 a.x a.y) _ (sd_le (by assumption) (by assumption) (by assumption))) rfl ?_)))))
        rintro _ w58 ⟨rfl, rfl⟩
        refine l_q (qmi rfl rfl) (l_o (o_call Tryz.call143 rfl (abs_ret (sd k.x1 k.y1 k.x2 k.y2 b.x b.y) _ (sd_le (by assumption) (by assumption) (by assumption))) rfl ?_))
        rintro _ w59 ⟨rfl, rfl⟩
        refine l_q (qai rfl rfl) (l_q (qai rfl rfl) (l_nil (r_seq (r_region' (l_q (q_build (v := .agg ⟨[.func (.func 144) ⟨[]⟩ ⟨[]⟩]⟩) (fun w => by kernel_rfl) rfl) (l_q (q_build (v := .agg ⟨[.func (.func 145) ⟨[]⟩ ⟨[]⟩]⟩) (fun w => by kernel_rfl) rfl) (l_o (o_alloc Tryz.zeroValue204 rfl rfl ?_))))))))
        intro b60 w60 hzl60 hzr60 _ hb60 hE60
        have hne_b1_b60 : b1 ≠ b60 := by have := hb1.lt; omega
        have hne_b2_b60 : b2 ≠ b60 := by have := hb2.lt; omega
        have hne_b3_b60 : b3 ≠ b60 := by have := hb3.lt; omega
        have hne_b5_b60 : b5 ≠ b60 := by have := hb5.lt; omega
        have hne_b6_b60 : b6 ≠ b60 := by have := hb6.lt; omega
        have hne_q9_b60 : q9 ≠ b60 := by have := hq9.lt; omega
        have hne_q10_b60 : q10 ≠ b60 := by have := hq10.lt; omega
        have hbs_b60 : w.heap.size ≤ b60 := Nat.le_trans hsz hzl60
        replace hB := below_ext hB hE60 hsz
        replace hb1 := hb1.ext hE60
        replace hb2 := hb2.ext hE60
        replace hb3 := hb3.ext hE60
        replace hb5 := hb5.ext hE60
        replace hb6 := hb6.ext hE60
        replace hq9 := hq9.ext hE60
        replace hq10 := hq10.ext hE60
        replace hsz := Nat.le_trans hsz hE60.size
        refine l_o (o_alloc Tryz.zeroValue204 rfl rfl ?_)
        intro b61 w61 hzl61 hzr61 _ hb61 hE61
        have hne_b1_b61 : b1 ≠ b61 := by have := hb1.lt; omega
        have hne_b2_b61 : b2 ≠ b61 := by have := hb2.lt; omega
        have hne_b3_b61 : b3 ≠ b61 := by have := hb3.lt; omega
        have hne_b5_b61 : b5 ≠ b61 := by have := hb5.lt; omega
        have hne_b6_b61 : b6 ≠ b61 := by have := hb6.lt; omega
        have hne_q9_b61 : q9 ≠ b61 := by have := hq9.lt; omega
        have hne_q10_b61 : q10 ≠ b61 := by have := hq10.lt; omega
        have hne_b60_b61 : b60 ≠ b61 := by have := hb60.lt; omega
        have hbs_b61 : w.heap.size ≤ b61 := Nat.le_trans hsz hzl61
        replace hB := below_ext hB hE61 hsz
        replace hb1 := hb1.ext hE61
        replace hb2 := hb2.ext hE61
        replace hb3 := hb3.ext hE61
        replace hb5 := hb5.ext hE61
        replace hb6 := hb6.ext hE61
        replace hq9 := hq9.ext hE61
        replace hq10 := hq10.ext hE61
        replace hb60 := hb60.ext hE61
        replace hsz := Nat.le_trans hsz hE61.size
        refine l_o (o_store (vs := [.func (.func 144) ⟨[]⟩ ⟨[]⟩]) (cs' := [.func (.func 144) ⟨[]⟩ ⟨[]⟩]) Tryz.sizeOf204 rfl rfl rfl rfl hb60 (Nat.le_of_ble_eq_true rfl) rfl rfl ?_)
        intro w62 hz62 hb60 hG62
        replace hB := below_upd hB hG62 hsz (by omega)
        replace hsz : w.heap.size ≤ w62.heap.size := by rw [hz62]; exact hsz
        replace hb1 := hb1.upd hG62 (by omega)
        replace hb2 := hb2.upd hG62 (by omega)
        replace hb3 := hb3.upd hG62 (by omega)
        replace hb5 := hb5.upd hG62 (by omega)
        replace hb6 := hb6.upd hG62 (by omega)
        replace hq9 := hq9.upd hG62 (by omega)
        replace hq10 := hq10.upd hG62 (by omega)
        replace hb61 := hb61.upd hG62 (by omega)
        refine l_o (o_store (vs := [.func (.func 145) ⟨[]⟩ ⟨[]⟩]) (cs' := [.func (.func 145) ⟨[]⟩ ⟨[]⟩]) Tryz.sizeOf204 rfl rfl rfl rfl hb61 (Nat.le_of_ble_eq_true rfl) rfl rfl ?_)
        intro w63 hz63 hb61 hG63
        replace hB := below_upd hB hG63 hsz (by omega)
        replace hsz : w.heap.size ≤ w63.heap.size := by rw [hz63]; exact hsz
        replace hb1 := hb1.upd hG63 (by omega)
        replace hb2 := hb2.upd hG63 (by omega)
        replace hb3 := hb3.upd hG63 (by omega)
        replace hb5 := hb5.upd hG63 (by omega)
        replace hb6 := hb6.upd hG63 (by omega)
        replace hq9 := hq9.upd hG63 (by omega)
        replace hq10 := hq10.upd hG63 (by omega)
        replace hb60 := hb60.upd hG63 (by omega)
        refine l_nil (r_seq (r_region' (l_q (q_load_agg (n := 1) Tryz.isAgg204 Tryz.sizeOf204 rfl ((hb60.cells' (cs' := [_]) 0 1 rfl)) rfl rfl) (l_q (q_load_agg (n := 6) Tryz.isAgg83 Tryz.sizeOf83 rfl ((hb1.cells' (cs' := [_, _, _, _, _, _]) 0 6 rfl)) rfl rfl) (l_q (q_load_agg (n := 4) Tryz.isAgg72 Tryz.sizeOf72 rfl ((hb2.cells' (cs' := [_, _, _, _]) 0 4 rfl)) rfl rfl) (l_q (q_load_agg (n := 4) Tryz.isAgg72 Tryz.sizeOf72 rfl ((hb3.cells' (cs' := [_, _, _, _]) 0 4 rfl)) rfl rfl) (l_q (qmi rfl rfl) (l_q (qmi rfl rfl) (l_o (o_call Tryz.call146 rfl (above_base_ret k a b (ab (sd k.x1 k.y1 k.x2 k.y2 a.x a.y)) (ab (sd k.x1 k.y1 k.x2 k.y2 b.x b.y)) _ hza hzb hzk (ab_le hsf) (ab_le hso)) rfl ?_))))))))))
        rintro _ w64 ⟨rfl, hE64⟩
        replace hB := below_ext hB hE64 hsz
        replace hb1 := hb1.ext hE64
        replace hb2 := hb2.ext hE64
        replace hb3 := hb3.ext hE64
        replace hb5 := hb5.ext hE64
        replace hb6 := hb6.ext hE64
        replace hq9 := hq9.ext hE64
        replace hq10 := hq10.ext hE64
        replace hb61 := hb61.ext hE64
        replace hsz := Nat.le_trans hsz hE64.size
        refine l_q (q_geq rfl rfl rfl) (l_q (qmb rfl rfl) (l_part 83 rfl (fun hc65 => ?_) (fun hc65 => ?_)))
        ·
         replace hc65 := dt hc65
         refine l_q (q_load_agg (n := 1) Tryz.isAgg204 Tryz.sizeOf204 rfl ((hb61.cells' (cs' := [_]) 0 1 rfl)) rfl rfl) (l_q (q_load_agg (n := 6) Tryz.isAgg83 Tryz.sizeOf83 rfl ((hb1.cells' (cs' := [_, _, _, _, _, _]) 0 6 rfl)) rfl rfl) (l_q (q_load_agg (n := 4) Tryz.isAgg72 Tryz.sizeOf72 rfl ((hb2.cells' (cs' := [_, _, _, _]) 0 4 rfl)) rfl rfl) (l_q (q_load_agg (n := 4) Tryz.isAgg72 Tryz.sizeOf72 rfl ((hb3.cells' (cs' := [_, _, _, _]) 0 4 rfl)) rfl rfl) (l_q (qmi rfl rfl) (l_q (qmi rfl rfl) (l_o (o_call Tryz.call146 rfl (above_top_ret k a b (ab (sd k.x1 k.y1 k.x2 k.y2 a.x a.y)) (ab (sd k.x1 k.y1 k.x2 k.y2 b.x b.y)) _ hza hzb hzk (ab_le hsf) (ab_le hso)) rfl ?_)))))))
         rintro _ w66 ⟨rfl, hE66⟩
         replace hB := below_ext hB hE66 hsz
         replace hb1 := hb1.ext hE66
         replace hb2 := hb2.ext hE66
         replace hb3 := hb3.ext hE66
         replace hb5 := hb5.ext hE66
         replace hb6 := hb6.ext hE66
         replace hq9 := hq9.ext hE66
         replace hq10 := hq10.ext hE66
         replace hsz := Nat.le_trans hsz hE66.size
         refine l_q (q_leq rfl rfl rfl) (l_q (q_pick_t (v := .bool _) rfl rfl rfl) (l_q (qab rfl rfl) (l_nil (r_forget [(6, .bool _)] ⟨rfl, trivial⟩ (fun e67 => (r_ret_ (vs := [.bool _]) rfl Tryz.func108 rfl (.nil _) ⟨rfl, trivial⟩ ?_))))))
         exact ⟨vbool_eq (by simp only [blkF]; simp_all <;> first | omega | (rw [Bool.eq_iff_iff]; simp only [Bool.and_eq_true, Bool.or_eq_true, Bool.not_eq_true', decide_eq_true_eq, decide_eq_false_iff_not]; omega)), Ext.of_below hB⟩
        ·
         replace hc65 := dle hc65
         refine l_q (q_skip rfl) (l_q (q_skip rfl) (l_q (q_skip rfl) (l_q (q_skip rfl) (l_q (q_skip rfl) (l_q (q_skip rfl) (l_q (q_skip rfl) (l_q (q_skip rfl) (l_q (q_pick_f (v := .bool _) rfl rfl rfl) (l_q (qab rfl rfl) (l_nil (r_forget [(6, .bool _)] ⟨rfl, trivial⟩ (fun e68 => (r_ret_ (vs := [.bool _]) rfl Tryz.func108 rfl (.nil _) ⟨rfl, trivial⟩ ?_)))))))))))))
         exact ⟨vbool_eq (by simp only [blkF]; simp_all <;> first | omega | (rw [Bool.eq_iff_iff]; simp only [Bool.and_eq_true, Bool.or_eq_true, Bool.not_eq_true', decide_eq_true_eq, decide_eq_false_iff_not]; omega)), Ext.of_below hB⟩
      ·
       replace hc55 := dlt hc55
       refine l_q (q_skip rfl) (l_q (q_skip rfl) (l_q (q_pick_f (v := .bool _) rfl rfl rfl) (l_q (q_pick_f (v := .bool _) rfl rfl rfl) (l_nil (r_forget [(3, .pointer _), (4, .pointer _), (5, .pointer _), (11, .int _ _), (12, .int _ _), (68, .bool _)] ⟨rfl, rfl, rfl, rfl, rfl, rfl, trivial⟩ (fun e69 => (r_cond_f rfl (r_skip (r_seq (r_region' (l_q (qmi rfl rfl) (l_o (o_call Tryz.call143 rfl (abs_ret (sd k.x1 k.y1 k.x2 k.y2 a.x a.y) _ (sd_le (by assumption) (by assumption) (by assumption))) rfl ?_)))))))))))))
       rintro _ w70 ⟨rfl, rfl⟩
       refine l_q (qmi rfl rfl) (l_o (o_call Tryz.call143 rfl (abs_ret (sd k.x1 k.y1 k.x2 k.y2 b.x b.y) _ (sd_le (by assumption) (by assumption) (by assumption))) rfl ?_))
       rintro _ w71 ⟨rfl, rfl⟩
       refine l_q (qai rfl rfl) (l_q (qai rfl rfl) (l_nil (r_seq (r_region' (l_q (q_build (v := .agg ⟨[.func (.func 144) ⟨[]⟩ ⟨[]⟩]⟩) (fun w => by kernel_rfl) rfl) (l_q (q_build (v := .agg ⟨[.func (.func 145) ⟨[]⟩ ⟨[]⟩]⟩) (fun w => by kernel_rfl) rfl) (l_o (o_alloc Tryz.zeroValue204 rfl rfl ?_))))))))
       intro b72 w72 hzl72 hzr72 _ hb72 hE72
       have hne_b1_b72 : b1 ≠ b72 := by have := hb1.lt; omega
       have hne_b2_b72 : b2 ≠ b72 := by have := hb2.lt; omega
       have hne_b3_b72 : b3 ≠ b72 := by have := hb3.lt; omega
       have hne_b5_b72 : b5 ≠ b72 := by have := hb5.lt; omega
       have hne_b6_b72 : b6 ≠ b72 := by have := hb6.lt; omega
       have hne_q9_b72 : q9 ≠ b72 := by have := hq9.lt; omega
       have hne_q10_b72 : q10 ≠ b72 := by have := hq10.lt; omega
       have hbs_b72 : w.heap.size ≤ b72 := Nat.le_trans hsz hzl72
       replace hB := below_ext hB hE72 hsz
       replace hb1 := hb1.ext hE72
       replace hb2 := hb2.ext hE72
       replace hb3 := hb3.ext hE72
       replace hb5 := hb5.ext hE72
       replace hb6 := hb6.ext hE72
       replace hq9 := hq9.ext hE72
       replace hq10 := hq10.ext hE72
       replace hsz := Nat.le_trans hsz hE72.size
       refine l_o (o_alloc Tryz.zeroValue204 rfl rfl ?_)
       intro b73 w73 hzl73 hzr73 _ hb73 hE73
       have hne_b1_b73 : b1 ≠ b73 := by have := hb1.lt; omega
       have hne_b2_b73 : b2 ≠ b73 := by have := hb2.lt; omega
       have hne_b3_b73 : b3 ≠ b73 := by have := hb3.lt; omega
       have hne_b5_b73 : b5 ≠ b73 := by have := hb5.lt; omega
       have hne_b6_b73 : b6 ≠ b73 := by have := hb6.lt; omega
       have hne_q9_b73 : q9 ≠ b73 := by have := hq9.lt; omega
       have hne_q10_b73 : q10 ≠ b73 := by have := hq10.lt; omega
       have hne_b72_b73 : b72 ≠ b73 := by have := hb72.lt; omega
       have hbs_b73 : w.heap.size ≤ b73 := Nat.le_trans hsz hzl73
       replace hB := below_ext hB hE73 hsz
       replace hb1 := hb1.ext hE73
       replace hb2 := hb2.ext hE73
       replace hb3 := hb3.ext hE73
       replace hb5 := hb5.ext hE73
       replace hb6 := hb6.ext hE73
       replace hb72 := hb72.ext hE73
       replace hsz := Nat.le_trans hsz hE73.size
       refine l_o (o_store (vs := [.func (.func 144) ⟨[]⟩ ⟨[]⟩]) (cs' := [.func (.func 144) ⟨[]⟩ ⟨[]⟩]) Tryz.sizeOf204 rfl rfl rfl rfl hb72 (Nat.le_of_ble_eq_true rfl) rfl rfl ?_)
       intro w74 hz74 hb72 hG74
       replace hB := below_upd hB hG74 hsz (by omega)
       replace hsz : w.heap.size ≤ w74.heap.size := by rw [hz74]; exact hsz
       replace hb1 := hb1.upd hG74 (by omega)
       replace hb2 := hb2.upd hG74 (by omega)
       replace hb3 := hb3.upd hG74 (by omega)
       replace hb5 := hb5.upd hG74 (by omega)
       replace hb6 := hb6.upd hG74 (by omega)
       replace hb73 := hb73.upd hG74 (by omega)
       refine l_o (o_store (vs := [.func (.func 145) ⟨[]⟩ ⟨[]⟩]) (cs' := [.func (.func 145) ⟨[]⟩ ⟨[]⟩]) Tryz.sizeOf204 rfl rfl rfl rfl hb73 (Nat.le_of_ble_eq_true rfl) rfl rfl ?_)
       intro w75 hz75 hb73 hG75
       replace hB := below_upd hB hG75 hsz (by omega)
       replace hsz : w.heap.size ≤ w75.heap.size := by rw [hz75]; exact hsz
       replace hb1 := hb1.upd hG75 (by omega)
       replace hb2 := hb2.upd hG75 (by omega)
       replace hb3 := hb3.upd hG75 (by omega)
       replace hb5 := hb5.upd hG75 (by omega)
       replace hb6 := hb6.upd hG75 (by omega)
       replace hb72 := hb72.upd hG75 (by omega)
       refine l_nil (r_seq (r_region' (l_q (q_load_agg (n := 1) Tryz.isAgg204 Tryz.sizeOf204 rfl ((hb72.cells' (cs' := [_]) 0 1 rfl)) rfl rfl) (l_q (q_load_agg (n := 6) Tryz.isAgg83 Tryz.sizeOf83 rfl ((hb1.cells' (cs' := [_, _, _, _, _, _]) 0 6 rfl)) rfl rfl) (l_q (q_load_agg (n := 4) Tryz.isAgg72 Tryz.sizeOf72 rfl ((hb2.cells' (cs' := [_, _, _, _]) 0 4 rfl)) rfl rfl) (l_q (q_load_agg (n := 4) Tryz.isAgg72 Tryz.sizeOf72 rfl ((hb3.cells' (cs' := [_, _, _, _]) 0 4 rfl)) rfl rfl) (l_q (qmi rfl rfl) (l_q (qmi rfl rfl) (l_o (o_call Tryz.call146 rfl (above_base_ret k a b (ab (sd k.x1 k.y1 k.x2 k.y2 a.x a.y)) (ab (sd k.x1 k.y1 k.x2 k.y2 b.x b.y)) _ hza hzb hzk (ab_le hsf) (ab_le hso)) rfl ?_))))))))))
       rintro _ w76 ⟨rfl, hE76⟩
       replace hB := below_ext hB hE76 hsz
       replace hb1 := hb1.ext hE76
       replace hb2 := hb2.ext hE76
       replace hb3 := hb3.ext hE76
       replace hb5 := hb5.ext hE76
       replace hb6 := hb6.ext hE76
       replace hb73 := hb73.ext hE76
       replace hsz := Nat.le_trans hsz hE76.size
       refine l_q (q_geq rfl rfl rfl) (l_q (qmb rfl rfl) (l_part 83 rfl (fun hc77 => ?_) (fun hc77 => ?_)))
       ·
        replace hc77 := dt hc77
        refine l_q (q_load_agg (n := 1) Tryz.isAgg204 Tryz.sizeOf204 rfl ((hb73.cells' (cs' := [_]) 0 1 rfl)) rfl rfl) (l_q (q_load_agg (n := 6) Tryz.isAgg83 Tryz.sizeOf83 rfl ((hb1.cells' (cs' := [_, _, _, _, _, _]) 0 6 rfl)) rfl rfl) (l_q (q_load_agg (n := 4) Tryz.isAgg72 Tryz.sizeOf72 rfl ((hb2.cells' (cs' := [_, _, _, _]) 0 4 rfl)) rfl rfl) (l_q (q_load_agg (n := 4) Tryz.isAgg72 Tryz.sizeOf72 rfl ((hb3.cells' (cs' := [_, _, _, _]) 0 4 rfl)) rfl rfl) (l_q (qmi rfl rfl) (l_q (qmi rfl rfl) (l_o (o_call Tryz.call146 rfl (above_top_ret k a b (ab (sd k.x1 k.y1 k.x2 k.y2 a.x a.y)) (ab (sd k.x1 k.y1 k.x2 k.y2 b.x b.y)) _ hza hzb hzk (ab_le hsf) (ab_le hso)) rfl ?_)))))))
        rintro _ w78 ⟨rfl, hE78⟩
        replace hB := below_ext hB hE78 hsz
        replace hb1 := hb1.ext hE78
        replace hb2 := hb2.ext hE78
        replace hb3 := hb3.ext hE78
        replace hb5 := hb5.ext hE78
        replace hb6 := hb6.ext hE78
        replace hsz := Nat.le_trans hsz hE78.size
        refine l_q (q_leq rfl rfl rfl) (l_q (q_pick_t (v := .bool _) rfl rfl rfl) (l_q (qab rfl rfl) (l_nil (r_forget [(6, .bool _)] ⟨rfl, trivial⟩ (fun e79 => (r_ret_ (vs := [.bool _]) rfl Tryz.func108 rfl (.nil _) ⟨rfl, trivial⟩ ?_))))))
        exact ⟨vbool_eq (by simp only [blkF]; simp_all <;> first | omega | (rw [Bool.eq_iff_iff]; simp only [Bool.and_eq_true, Bool.or_eq_true, Bool.not_eq_true', decide_eq_true_eq, decide_eq_false_iff_not]; omega)), Ext.of_below hB⟩
       ·
        replace hc77 := dle hc77
        refine l_q (q_skip rfl) (l_q (q_skip rfl) (l_q (q_skip rfl) (l_q (q_skip rfl) (l_q (q_skip rfl) (l_q (q_skip rfl) (l_q (q_skip rfl) (l_q (q_skip rfl) (l_q (q_pick_f (v := .bool _) rfl rfl rfl) (l_q (qab rfl rfl) (l_nil (r_forget [(6, .bool _)] ⟨rfl, trivial⟩ (fun e80 => (r_ret_ (vs := [.bool _]) rfl Tryz.func108 rfl (.nil _) ⟨rfl, trivial⟩ ?_)))))))))))))
        exact ⟨vbool_eq (by simp only [blkF]; simp_all <;> first | omega | (rw [Bool.eq_iff_iff]; simp only [Bool.and_eq_true, Bool.or_eq_true, Bool.not_eq_true', decide_eq_true_eq, decide_eq_false_iff_not]; omega)), Ext.of_below hB⟩
 · intro hj9
   refine r_draw3 (Cls := fun w1 w2 => (Blk w1 b2 [vint a.x, vint a.y, vint a.z, vint a.m] → Blk w2 b2 [vint a.x, vint a.y, vint a.z, vint a.m]) ∧ (Blk w1 b3 [vint b.x, vint b.y, vint b.z, vint b.m] → Blk w2 b3 [vint b.x, vint b.y, vint b.z, vint b.m])) (fun w => ⟨(fun h => h), (fun h => h)⟩) (fun a b c h1 h2 => ⟨(fun h => h2.1 (h1.1 h)), (fun h => h2.2 (h1.2 h))⟩) (.op 0 (.op 2 (.fork 5 (.fork 4 (.op 1 (.op 3 (.op 6 (.op 7 (.done))))) (.op 1 (.fork 4 (.op 3 (.op 6 (.op 7 (.done)))) (.op 3 (.op 4 (.op 6 (.op 7 (.done)))))))) (.fork 4 (.fork 5 (.op 1 (.op 3 (.op 6 (.op 7 (.done))))) (.op 1 (.fork 5 (.op 3 (.op 6 (.op 7 (.done)))) (.op 3 (.op 5 (.op 6 (.op 7 (.done)))))))) (.op 1 (.fork 5 (.fork 4 (.op 3 (.op 6 (.op 7 (.done)))) (.op 3 (.op 4 (.op 6 (.op 7 (.done)))))) (.fork 4 (.fork 5 (.op 3 (.op 6 (.op 7 (.done)))) (.op 3 (.op 5 (.op 6 (.op 7 (.done)))))) (.op 3 (.fork 5 (.op 4 (.op 6 (.op 7 (.done)))) (.op 4 (.op 5 (.op 6 (.op 7 (.done)))))))))))))) [1, 3, 4, 5, 6, 7, 1007] 12 (by kernel_rfl) (by kernel_rfl) ?_
   intro w81 _ hE81
   replace hB := below_ext hB hE81 hsz
   replace hb1 := hb1.ext hE81
   replace hb2 := hb2.ext hE81
   replace hb3 := hb3.ext hE81
   replace hb5 := hb5.ext hE81
   replace hb6 := hb6.ext hE81
   replace hsz := Nat.le_trans hsz hE81.size
   refine m_q3 rfl rfl (fun w' hC' => q_load_agg (n := 4) Tryz.isAgg72 Tryz.sizeOf72 rfl (((hC'.1 hb2).cells' (cs' := [_, _, _, _]) 0 4 rfl)) rfl rfl) (m_q3 rfl rfl (fun w' hC' => q_load_agg (n := 4) Tryz.isAgg72 Tryz.sizeOf72 rfl (((hC'.2 hb3).cells' (cs' := [_, _, _, _]) 0 4 rfl)) rfl rfl) (m_fork3 ?_ ?_))
   ·
    refine m_o3 rfl rfl (o_alloc Tryz.zeroValue163 rfl rfl ?_)
    intro b82 w82 hzl82 hzr82 _ hb82 hE82
    refine ⟨⟨(fun h => h.ext hE82), (fun h => h.ext hE82)⟩, ?_⟩
    have hne_b1_b82 : b1 ≠ b82 := by have := hb1.lt; omega
    have hne_b2_b82 : b2 ≠ b82 := by have := hb2.lt; omega
    have hne_b3_b82 : b3 ≠ b82 := by have := hb3.lt; omega
    have hne_b5_b82 : b5 ≠ b82 := by have := hb5.lt; omega
    have hne_b6_b82 : b6 ≠ b82 := by have := hb6.lt; omega
    have hbs_b82 : w.heap.size ≤ b82 := Nat.le_trans hsz hzl82
    replace hB := below_ext hB hE82 hsz
    replace hb1 := hb1.ext hE82
    replace hb2 := hb2.ext hE82
    replace hb3 := hb3.ext hE82
    replace hb5 := hb5.ext hE82
    replace hb6 := hb6.ext hE82
    replace hsz := Nat.le_trans hsz hE82.size
    refine m_fork3 ?_ ?_
    ·
     refine m_o3 rfl rfl (o_alloc Tryz.zeroValue163 rfl rfl ?_)
     intro b83 w83 hzl83 hzr83 _ hb83 hE83
     refine ⟨⟨(fun h => h.ext hE83), (fun h => h.ext hE83)⟩, ?_⟩
     have hne_b1_b83 : b1 ≠ b83 := by have := hb1.lt; omega
     have hne_b2_b83 : b2 ≠ b83 := by have := hb2.lt; omega
     have hne_b3_b83 : b3 ≠ b83 := by have := hb3.lt; omega
     have hne_b5_b83 : b5 ≠ b83 := by have := hb5.lt; omega
     have hne_b6_b83 : b6 ≠ b83 := by have := hb6.lt; omega
     have hne_b82_b83 : b82 ≠ b83 := by have := hb82.lt; omega
     have hbs_b83 : w.heap.size ≤ b83 := Nat.le_trans hsz hzl83
     replace hB := below_ext hB hE83 hsz
     replace hb1 := hb1.ext hE83
     replace hb2 := hb2.ext hE83
     replace hb3 := hb3.ext hE83
     replace hb5 := hb5.ext hE83
     replace hb6 := hb6.ext hE83
     replace hb82 := hb82.ext hE83
     replace hsz := Nat.le_trans hsz hE83.size
     refine m_o3 rfl rfl (o_call Tryz.call100 rfl (place_ret a _) rfl ?_)
     rintro _ w84 ⟨rfl, hE84⟩
     refine ⟨⟨(fun h => h.ext hE84), (fun h => h.ext hE84)⟩, ?_⟩
     replace hB := below_ext hB hE84 hsz
     replace hb1 := hb1.ext hE84
     replace hb2 := hb2.ext hE84
     replace hb3 := hb3.ext hE84
     replace hb5 := hb5.ext hE84
     replace hb6 := hb6.ext hE84
     replace hb82 := hb82.ext hE84
     replace hb83 := hb83.ext hE84
     replace hsz := Nat.le_trans hsz hE84.size
     refine m_o3 rfl rfl (o_call Tryz.call100 rfl (place_ret b _) rfl ?_)
     rintro _ w85 ⟨rfl, hE85⟩
     refine ⟨⟨(fun h => h.ext hE85), (fun h => h.ext hE85)⟩, ?_⟩
     replace hB := below_ext hB hE85 hsz
     replace hb1 := hb1.ext hE85
     replace hb2 := hb2.ext hE85
     replace hb3 := hb3.ext hE85
     replace hb5 := hb5.ext hE85
     replace hb6 := hb6.ext hE85
     replace hb82 := hb82.ext hE85
     replace hb83 := hb83.ext hE85
     replace hsz := Nat.le_trans hsz hE85.size
     refine m_o3 rfl rfl (o_store (vs := [vint a.x, vint a.y]) (cs' := [vint a.x, vint a.y]) Tryz.sizeOf163 rfl rfl rfl rfl hb83 (Nat.le_of_ble_eq_true rfl) rfl rfl ?_)
     intro w86 hz86 hb83 hG86
     refine ⟨⟨(fun h => h.upd hG86 (by omega)), (fun h => h.upd hG86 (by omega))⟩, ?_⟩
     replace hB := below_upd hB hG86 hsz (by omega)
     replace hsz : w.heap.size ≤ w86.heap.size := by rw [hz86]; exact hsz
     replace hb1 := hb1.upd hG86 (by omega)
     replace hb2 := hb2.upd hG86 (by omega)
     replace hb3 := hb3.upd hG86 (by omega)
     replace hb5 := hb5.upd hG86 (by omega)
     replace hb6 := hb6.upd hG86 (by omega)
     replace hb82 := hb82.upd hG86 (by omega)
     refine m_last3 rfl rfl rfl (o_store (vs := [vint b.x, vint b.y]) (cs' := [vint b.x, vint b.y]) Tryz.sizeOf163 rfl rfl rfl rfl hb82 (Nat.le_of_ble_eq_true rfl) rfl rfl ?_)
     intro w87 hz87 hb82 hG87
     replace hB := below_upd hB hG87 hsz (by omega)
     replace hsz : w.heap.size ≤ w87.heap.size := by rw [hz87]; exact hsz
     replace hb1 := hb1.upd hG87 (by omega)
     replace hb2 := hb2.upd hG87 (by omega)
     replace hb3 := hb3.upd hG87 (by omega)
     replace hb5 := hb5.upd hG87 (by omega)
     replace hb6 := hb6.upd hG87 (by omega)
     replace hb83 := hb83.upd hG87 (by omega)
     refine m_nil3 (r_forget [(3, .pointer _), (4, .pointer _), (5, .pointer _), (7, .pointer _), (8, .pointer _), (9, .pointer _), (10, .pointer _)] ⟨rfl, rfl, rfl, rfl, rfl, rfl, rfl, trivial⟩ (fun e88 => ?_))
     exact hj9 (b83, b82) _ _ ⟨⟨rfl, rfl, rfl, rfl, rfl, rfl, rfl, trivial⟩, hb83, hb82, hb1, hb2, hb3, hb5, hb6, hsz, hB⟩
    ·
     refine m_o3 rfl rfl (o_call Tryz.call100 rfl (place_ret a _) rfl ?_)
     rintro _ w89 ⟨rfl, hE89⟩
     refine ⟨⟨(fun h => h.ext hE89), (fun h => h.ext hE89)⟩, ?_⟩
     replace hB := below_ext hB hE89 hsz
     replace hb1 := hb1.ext hE89
     replace hb2 := hb2.ext hE89
     replace hb3 := hb3.ext hE89
     replace hb5 := hb5.ext hE89
     replace hb6 := hb6.ext hE89
     replace hb82 := hb82.ext hE89
     replace hsz := Nat.le_trans hsz hE89.size
     refine m_fork3 ?_ ?_
     ·
      refine m_o3 rfl rfl (o_alloc Tryz.zeroValue163 rfl rfl ?_)
      intro b90 w90 hzl90 hzr90 _ hb90 hE90
      refine ⟨⟨(fun h => h.ext hE90), (fun h => h.ext hE90)⟩, ?_⟩
      have hne_b1_b90 : b1 ≠ b90 := by have := hb1.lt; omega
      have hne_b2_b90 : b2 ≠ b90 := by have := hb2.lt; omega
      have hne_b3_b90 : b3 ≠ b90 := by have := hb3.lt; omega
      have hne_b5_b90 : b5 ≠ b90 := by have := hb5.lt; omega
      have hne_b6_b90 : b6 ≠ b90 := by have := hb6.lt; omega
      have hne_b82_b90 : b82 ≠ b90 := by have := hb82.lt; omega
      have hbs_b90 : w.heap.size ≤ b90 := Nat.le_trans hsz hzl90
      replace hB := below_ext hB hE90 hsz
      replace hb1 := hb1.ext hE90
      replace hb2 := hb2.ext hE90
      replace hb3 := hb3.ext hE90
      replace hb5 := hb5.ext hE90
      replace hb6 := hb6.ext hE90
      replace hb82 := hb82.ext hE90
      replace hsz := Nat.le_trans hsz hE90.size
      refine m_o3 rfl rfl (o_call Tryz.call100 rfl (place_ret b _) rfl ?_)
      rintro _ w91 ⟨rfl, hE91⟩
      refine ⟨⟨(fun h => h.ext hE91), (fun h => h.ext hE91)⟩, ?_⟩
      replace hB := below_ext hB hE91 hsz
      replace hb1 := hb1.ext hE91
      replace hb2 := hb2.ext hE91
      replace hb3 := hb3.ext hE91
      replace hb5 := hb5.ext hE91
      replace hb6 := hb6.ext hE91
      replace hb82 := hb82.ext hE91
      replace hb90 := hb90.ext hE91
      replace hsz := Nat.le_trans hsz hE91.size
      refine m_o3 rfl rfl (o_store (vs := [vint a.x, vint a.y]) (cs' := [vint a.x, vint a.y]) Tryz.sizeOf163 rfl rfl rfl rfl hb90 (Nat.le_of_ble_eq_true rfl) rfl rfl ?_)
      intro w92 hz92 hb90 hG92
      refine ⟨⟨(fun h => h.upd hG92 (by omega)), (fun h => h.upd hG92 (by omega))⟩, ?_⟩
      replace hB := below_upd hB hG92 hsz (by omega)
      replace hsz : w.heap.size ≤ w92.heap.size := by rw [hz92]; exact hsz
      replace hb1 := hb1.upd hG92 (by omega)
      replace hb2 := hb2.upd hG92 (by omega)
      replace hb3 := hb3.upd hG92 (by omega)
      replace hb5 := hb5.upd hG92 (by omega)
      replace hb6 := hb6.upd hG92 (by omega)
      replace hb82 := hb82.upd hG92 (by omega)
      refine m_last3 rfl rfl rfl (o_store (vs := [vint b.x, vint b.y]) (cs' := [vint b.x, vint b.y]) Tryz.sizeOf163 rfl rfl rfl rfl hb82 (Nat.le_of_ble_eq_true rfl) rfl rfl ?_)
      intro w93 hz93 hb82 hG93
      replace hB := below_upd hB hG93 hsz (by omega)
      replace hsz : w.heap.size ≤ w93.heap.size := by rw [hz93]; exact hsz
      replace hb1 := hb1.upd hG93 (by omega)
      replace hb2 := hb2.upd hG93 (by omega)
      replace hb3 := hb3.upd hG93 (by omega)
      replace hb5 := hb5.upd hG93 (by omega)
      replace hb6 := hb6.upd hG93 (by omega)
      replace hb90 := hb90.upd hG93 (by omega)
      refine m_nil3 (r_forget [(3, .pointer _), (4, .pointer _), (5, .pointer _), (7, .pointer _), (8, .pointer _), (9, .pointer _), (10, .pointer _)] ⟨rfl, rfl, rfl, rfl, rfl, rfl, rfl, trivial⟩ (fun e94 => ?_))
      exact hj9 (b90, b82) _ _ ⟨⟨rfl, rfl, rfl, rfl, rfl, rfl, rfl, trivial⟩, hb90, hb82, hb1, hb2, hb3, hb5, hb6, hsz, hB⟩
     ·
      refine m_o3 rfl rfl (o_call Tryz.call100 rfl (place_ret b _) rfl ?_)
      rintro _ w95 ⟨rfl, hE95⟩
      refine ⟨⟨(fun h => h.ext hE95), (fun h => h.ext hE95)⟩, ?_⟩
      replace hB := below_ext hB hE95 hsz
      replace hb1 := hb1.ext hE95
      replace hb2 := hb2.ext hE95
      replace hb3 := hb3.ext hE95
      replace hb5 := hb5.ext hE95
      replace hb6 := hb6.ext hE95
      replace hb82 := hb82.ext hE95
      replace hsz := Nat.le_trans hsz hE95.size
      refine m_o3 rfl rfl (o_alloc Tryz.zeroValue163 rfl rfl ?_)
      intro b96 w96 hzl96 hzr96 _ hb96 hE96
      refine ⟨⟨(fun h => h.ext hE96), (fun h => h.ext hE96)⟩, ?_⟩
      have hne_b1_b96 : b1 ≠ b96 := by have := hb1.lt; omega
      have hne_b2_b96 : b2 ≠ b96 := by have := hb2.lt; omega
      have hne_b3_b96 : b3 ≠ b96 := by have := hb3.lt; omega
      have hne_b5_b96 : b5 ≠ b96 := by have := hb5.lt; omega
      have hne_b6_b96 : b6 ≠ b96 := by have := hb6.lt; omega
      have hne_b82_b96 : b82 ≠ b96 := by have := hb82.lt; omega
      have hbs_b96 : w.heap.size ≤ b96 := Nat.le_trans hsz hzl96
      replace hB := below_ext hB hE96 hsz
      replace hb1 := hb1.ext hE96
      replace hb2 := hb2.ext hE96
      replace hb3 := hb3.ext hE96
      replace hb5 := hb5.ext hE96
      replace hb6 := hb6.ext hE96
      replace hb82 := hb82.ext hE96
      replace hsz := Nat.le_trans hsz hE96.size
      refine m_o3 rfl rfl (o_store (vs := [vint a.x, vint a.y]) (cs' := [vint a.x, vint a.y]) Tryz.sizeOf163 rfl rfl rfl rfl hb96 (Nat.le_of_ble_eq_true rfl) rfl rfl ?_)
      intro w97 hz97 hb96 hG97
      refine ⟨⟨(fun h => h.upd hG97 (by omega)), (fun h => h.upd hG97 (by omega))⟩, ?_⟩
      replace hB := below_upd hB hG97 hsz (by omega)
      replace hsz : w.heap.size ≤ w97.heap.size := by rw [hz97]; exact hsz
      replace hb1 := hb1.upd hG97 (by omega)
      replace hb2 := hb2.upd hG97 (by omega)
      replace hb3 := hb3.upd hG97 (by omega)
      replace hb5 := hb5.upd hG97 (by omega)
      replace hb6 := hb6.upd hG97 (by omega)
      replace hb82 := hb82.upd hG97 (by omega)
      refine m_last3 rfl rfl rfl (o_store (vs := [vint b.x, vint b.y]) (cs' := [vint b.x, vint b.y]) Tryz.sizeOf163 rfl rfl rfl rfl hb82 (Nat.le_of_ble_eq_true rfl) rfl rfl ?_)
      intro w98 hz98 hb82 hG98
      replace hB := below_upd hB hG98 hsz (by omega)
      replace hsz : w.heap.size ≤ w98.heap.size := by rw [hz98]; exact hsz
      replace hb1 := hb1.upd hG98 (by omega)
      replace hb2 := hb2.upd hG98 (by omega)
      replace hb3 := hb3.upd hG98 (by omega)
      replace hb5 := hb5.upd hG98 (by omega)
      replace hb6 := hb6.upd hG98 (by omega)
      replace hb96 := hb96.upd hG98 (by omega)
      refine m_nil3 (r_forget [(3, .pointer _), (4, .pointer _), (5, .pointer _), (7, .pointer _), (8, .pointer _), (9, .pointer _), (10, .pointer _)] ⟨rfl, rfl, rfl, rfl, rfl, rfl, rfl, trivial⟩ (fun e99 => ?_))
      exact hj9 (b96, b82) _ _ ⟨⟨rfl, rfl, rfl, rfl, rfl, rfl, rfl, trivial⟩, hb96, hb82, hb1, hb2, hb3, hb5, hb6, hsz, hB⟩
   ·
    refine m_fork3 ?_ ?_
    ·
     refine m_o3 rfl rfl (o_alloc Tryz.zeroValue163 rfl rfl ?_)
     intro b100 w100 hzl100 hzr100 _ hb100 hE100
     refine ⟨⟨(fun h => h.ext hE100), (fun h => h.ext hE100)⟩, ?_⟩
     have hne_b1_b100 : b1 ≠ b100 := by have := hb1.lt; omega
     have hne_b2_b100 : b2 ≠ b100 := by have := hb2.lt; omega
     have hne_b3_b100 : b3 ≠ b100 := by have := hb3.lt; omega
     have hne_b5_b100 : b5 ≠ b100 := by have := hb5.lt; omega
     have hne_b6_b100 : b6 ≠ b100 := by have := hb6.lt; omega
     have hbs_b100 : w.heap.size ≤ b100 := Nat.le_trans hsz hzl100
     replace hB := below_ext hB hE100 hsz
     replace hb1 := hb1.ext hE100
     replace hb2 := hb2.ext hE100
     replace hb3 := hb3.ext hE100
     replace hb5 := hb5.ext hE100
     replace hb6 := hb6.ext hE100
     replace hsz := Nat.le_trans hsz hE100.size
     refine m_fork3 ?_ ?_
     ·
      refine m_o3 rfl rfl (o_alloc Tryz.zeroValue163 rfl rfl ?_)
      intro b101 w101 hzl101 hzr101 _ hb101 hE101
      refine ⟨⟨(fun h => h.ext hE101), (fun h => h.ext hE101)⟩, ?_⟩
      have hne_b1_b101 : b1 ≠ b101 := by have := hb1.lt; omega
      have hne_b2_b101 : b2 ≠ b101 := by have := hb2.lt; omega
      have hne_b3_b101 : b3 ≠ b101 := by have := hb3.lt; omega
      have hne_b5_b101 : b5 ≠ b101 := by have := hb5.lt; omega
      have hne_b6_b101 : b6 ≠ b101 := by have := hb6.lt; omega
      have hne_b100_b101 : b100 ≠ b101 := by have := hb100.lt; omega
      have hbs_b101 : w.heap.size ≤ b101 := Nat.le_trans hsz hzl101
      replace hB := below_ext hB hE101 hsz
      replace hb1 := hb1.ext hE101
      replace hb2 := hb2.ext hE101
      replace hb3 := hb3.ext hE101
      replace hb5 := hb5.ext hE101
      replace hb6 := hb6.ext hE101
      replace hb100 := hb100.ext hE101
      replace hsz := Nat.le_trans hsz hE101.size
      refine m_o3 rfl rfl (o_call Tryz.call100 rfl (place_ret a _) rfl ?_)
      rintro _ w102 ⟨rfl, hE102⟩
      refine ⟨⟨(fun h => h.ext hE102), (fun h => h.ext hE102)⟩, ?_⟩
      replace hB := below_ext hB hE102 hsz
      replace hb1 := hb1.ext hE102
      replace hb2 := hb2.ext hE102
      replace hb3 := hb3.ext hE102
      replace hb5 := hb5.ext hE102
      replace hb6 := hb6.ext hE102
      replace hb100 := hb100.ext hE102
      replace hb101 := hb101.ext hE102
      replace hsz := Nat.le_trans hsz hE102.size
      refine m_o3 rfl rfl (o_call Tryz.call100 rfl (place_ret b _) rfl ?_)
      rintro _ w103 ⟨rfl, hE103⟩
      refine ⟨⟨(fun h => h.ext hE103), (fun h => h.ext hE103)⟩, ?_⟩
      replace hB := below_ext hB hE103 hsz
      replace hb1 := hb1.ext hE103
      replace hb2 := hb2.ext hE103
      replace hb3 := hb3.ext hE103
      replace hb5 := hb5.ext hE103
      replace hb6 := hb6.ext hE103
      replace hb100 := hb100.ext hE103
      replace hb101 := hb101.ext hE103
      replace hsz := Nat.le_trans hsz hE103.size
      refine m_o3 rfl rfl (o_store (vs := [vint a.x, vint a.y]) (cs' := [vint a.x, vint a.y]) Tryz.sizeOf163 rfl rfl rfl rfl hb100 (Nat.le_of_ble_eq_true rfl) rfl rfl ?_)
      intro w104 hz104 hb100 hG104
      refine ⟨⟨(fun h => h.upd hG104 (by omega)), (fun h => h.upd hG104 (by omega))⟩, ?_⟩
      replace hB := below_upd hB hG104 hsz (by omega)
      replace hsz : w.heap.size ≤ w104.heap.size := by rw [hz104]; exact hsz
      replace hb1 := hb1.upd hG104 (by omega)
      replace hb2 := hb2.upd hG104 (by omega)
      replace hb3 := hb3.upd hG104 (by omega)
      replace hb5 := hb5.upd hG104 (by omega)
      replace hb6 := hb6.upd hG104 (by omega)
      replace hb101 := hb101.upd hG104 (by omega)
      refine m_last3 rfl rfl rfl (o_store (vs := [vint b.x, vint b.y]) (cs' := [vint b.x, vint b.y]) Tryz.sizeOf163 rfl rfl rfl rfl hb101 (Nat.le_of_ble_eq_true rfl) rfl rfl ?_)
      intro w105 hz105 hb101 hG105
      replace hB := below_upd hB hG105 hsz (by omega)
      replace hsz : w.heap.size ≤ w105.heap.size := by rw [hz105]; exact hsz
      replace hb1 := hb1.upd hG105 (by omega)
      replace hb2 := hb2.upd hG105 (by omega)
      replace hb3 := hb3.upd hG105 (by omega)
      replace hb5 := hb5.upd hG105 (by omega)
      replace hb6 := hb6.upd hG105 (by omega)
      replace hb100 := hb100.upd hG105 (by omega)
      refine m_nil3 (r_forget [(3, .pointer _), (4, .pointer _), (5, .pointer _), (7, .pointer _), (8, .pointer _), (9, .pointer _), (10, .pointer _)] ⟨rfl, rfl, rfl, rfl, rfl, rfl, rfl, trivial⟩ (fun e106 => ?_))
      exact hj9 (b100, b101) _ _ ⟨⟨rfl, rfl, rfl, rfl, rfl, rfl, rfl, trivial⟩, hb100, hb101, hb1, hb2, hb3, hb5, hb6, hsz, hB⟩
     ·
      refine m_o3 rfl rfl (o_call Tryz.call100 rfl (place_ret a _) rfl ?_)
      rintro _ w107 ⟨rfl, hE107⟩
      refine ⟨⟨(fun h => h.ext hE107), (fun h => h.ext hE107)⟩, ?_⟩
      replace hB := below_ext hB hE107 hsz
      replace hb1 := hb1.ext hE107
      replace hb2 := hb2.ext hE107
      replace hb3 := hb3.ext hE107
      replace hb5 := hb5.ext hE107
      replace hb6 := hb6.ext hE107
      replace hb100 := hb100.ext hE107
      replace hsz := Nat.le_trans hsz hE107.size
      refine m_fork3 ?_ ?_
      ·
       refine m_o3 rfl rfl (o_alloc Tryz.zeroValue163 rfl rfl ?_)
       intro b108 w108 hzl108 hzr108 _ hb108 hE108
       refine ⟨⟨(fun h => h.ext hE108), (fun h => h.ext hE108)⟩, ?_⟩
       have hne_b1_b108 : b1 ≠ b108 := by have := hb1.lt; omega
       have hne_b2_b108 : b2 ≠ b108 := by have := hb2.lt; omega
       have hne_b3_b108 : b3 ≠ b108 := by have := hb3.lt; omega
       have hne_b5_b108 : b5 ≠ b108 := by have := hb5.lt; omega
       have hne_b6_b108 : b6 ≠ b108 := by have := hb6.lt; omega
       have hne_b100_b108 : b100 ≠ b108 := by have := hb100.lt; omega
       have hbs_b108 : w.heap.size ≤ b108 := Nat.le_trans hsz hzl108
       replace hB := below_ext hB hE108 hsz
       replace hb1 := hb1.ext hE108
       replace hb2 := hb2.ext hE108
       replace hb3 := hb3.ext hE108
       replace hb5 := hb5.ext hE108
       replace hb6 := hb6.ext hE108
       replace hb100 := hb100.ext hE108
       replace hsz := Nat.le_trans hsz hE108.size
       refine m_o3 rfl rfl (o_call Tryz.call100 rfl (place_ret b _) rfl ?_)
       rintro _ w109 ⟨rfl, hE109⟩
       refine ⟨⟨(fun h => h.ext hE109), (fun h => h.ext hE109)⟩, ?_⟩
       replace hB := below_ext hB hE109 hsz
       replace hb1 := hb1.ext hE109
       replace hb2 := hb2.ext hE109
       replace hb3 := hb3.ext hE109
       replace hb5 := hb5.ext hE109
       replace hb6 := hb6.ext hE109
       replace hb100 := hb100.ext hE109
       replace hb108 := hb108.ext hE109
       replace hsz := Nat.le_trans hsz hE109.size
       refine m_o3 rfl rfl (o_store (vs := [vint a.x, vint a.y]) (cs' := [vint a.x, vint a.y]) Tryz.sizeOf163 rfl rfl rfl rfl hb100 (Nat.le_of_ble_eq_true rfl) rfl rfl ?_)
       intro w110 hz110 hb100 hG110
       refine ⟨⟨(fun h => h.upd hG110 (by omega)), (fun h => h.upd hG110 (by omega))⟩, ?_⟩
       replace hB := below_upd hB hG110 hsz (by omega)
       replace hsz : w.heap.size ≤ w110.heap.size := by rw [hz110]; exact hsz
       replace hb1 := hb1.upd hG110 (by omega)
       replace hb2 := hb2.upd hG110 (by omega)
       replace hb3 := hb3.upd hG110 (by omega)
       replace hb5 := hb5.upd hG110 (by omega)
       replace hb6 := hb6.upd hG110 (by omega)
       replace hb108 := hb108.upd hG110 (by omega)
       refine m_last3 rfl rfl rfl (o_store (vs := [vint b.x, vint b.y]) (cs' := [vint b.x, vint b.y]) Tryz.sizeOf163 rfl rfl rfl rfl hb108 (Nat.le_of_ble_eq_true rfl) rfl rfl ?_)
       intro w111 hz111 hb108 hG111
       replace hB := below_upd hB hG111 hsz (by omega)
       replace hsz : w.heap.size ≤ w111.heap.size := by rw [hz111]; exact hsz
       replace hb1 := hb1.upd hG111 (by omega)
       replace hb2 := hb2.upd hG111 (by omega)
       replace hb3 := hb3.upd hG111 (by omega)
       replace hb5 := hb5.upd hG111 (by omega)
       replace hb6 := hb6.upd hG111 (by omega)
       replace hb100 := hb100.upd hG111 (by omega)
       refine m_nil3 (r_forget [(3, .pointer _), (4, .pointer _), (5, .pointer _), (7, .pointer _), (8, .pointer _), (9, .pointer _), (10, .pointer _)] ⟨rfl, rfl, rfl, rfl, rfl, rfl, rfl, trivial⟩ (fun e112 => ?_))
       exact hj9 (b100, b108) _ _ ⟨⟨rfl, rfl, rfl, rfl, rfl, rfl, rfl, trivial⟩, hb100, hb108, hb1, hb2, hb3, hb5, hb6, hsz, hB⟩
      ·
       refine m_o3 rfl rfl (o_call Tryz.call100 rfl (place_ret b _) rfl ?_)
       rintro _ w113 ⟨rfl, hE113⟩
       refine ⟨⟨(fun h => h.ext hE113), (fun h => h.ext hE113)⟩, ?_⟩
       replace hB := below_ext hB hE113 hsz
       replace hb1 := hb1.ext hE113
       replace hb2 := hb2.ext hE113
       replace hb3 := hb3.ext hE113
       replace hb5 := hb5.ext hE113
       replace hb6 := hb6.ext hE113
       replace hb100 := hb100.ext hE113
       replace hsz := Nat.le_trans hsz hE113.size
       refine m_o3 rfl rfl (o_alloc Tryz.zeroValue163 rfl rfl ?_)
       intro b114 w114 hzl114 hzr114 _ hb114 hE114
       refine ⟨⟨(fun h => h.ext hE114), (fun h => h.ext hE114)⟩, ?_⟩
       have hne_b1_b114 : b1 ≠ b114 := by have := hb1.lt; omega
       have hne_b2_b114 : b2 ≠ b114 := by have := hb2.lt; omega
       have hne_b3_b114 : b3 ≠ b114 := by have := hb3.lt; omega
       have hne_b5_b114 : b5 ≠ b114 := by have := hb5.lt; omega
       have hne_b6_b114 : b6 ≠ b114 := by have := hb6.lt; omega
       have hne_b100_b114 : b100 ≠ b114 := by have := hb100.lt; omega
       have hbs_b114 : w.heap.size ≤ b114 := Nat.le_trans hsz hzl114
       replace hB := below_ext hB hE114 hsz
       replace hb1 := hb1.ext hE114
       replace hb2 := hb2.ext hE114
       replace hb3 := hb3.ext hE114
       replace hb5 := hb5.ext hE114
       replace hb6 := hb6.ext hE114
       replace hb100 := hb100.ext hE114
       replace hsz := Nat.le_trans hsz hE114.size
       refine m_o3 rfl rfl (o_store (vs := [vint a.x, vint a.y]) (cs' := [vint a.x, vint a.y]) Tryz.sizeOf163 rfl rfl rfl rfl hb100 (Nat.le_of_ble_eq_true rfl) rfl rfl ?_)
       intro w115 hz115 hb100 hG115
       refine ⟨⟨(fun h => h.upd hG115 (by omega)), (fun h => h.upd hG115 (by omega))⟩, ?_⟩
       replace hB := below_upd hB hG115 hsz (by omega)
       replace hsz : w.heap.size ≤ w115.heap.size := by rw [hz115]; exact hsz
       replace hb1 := hb1.upd hG115 (by omega)
       replace hb2 := hb2.upd hG115 (by omega)
       replace hb3 := hb3.upd hG115 (by omega)
       replace hb5 := hb5.upd hG115 (by omega)
       replace hb6 := hb6.upd hG115 (by omega)
       replace hb114 := hb114.upd hG115 (by omega)
       refine m_last3 rfl rfl rfl (o_store (vs := [vint b.x, vint b.y]) (cs' := [vint b.x, vint b.y]) Tryz.sizeOf163 rfl rfl rfl rfl hb114 (Nat.le_of_ble_eq_true rfl) rfl rfl ?_)
       intro w116 hz116 hb114 hG116
       replace hB := below_upd hB hG116 hsz (by omega)
       replace hsz : w.heap.size ≤ w116.heap.size := by rw [hz116]; exact hsz
       replace hb1 := hb1.upd hG116 (by omega)
       replace hb2 := hb2.upd hG116 (by omega)
       replace hb3 := hb3.upd hG116 (by omega)
       replace hb5 := hb5.upd hG116 (by omega)
       replace hb6 := hb6.upd hG116 (by omega)
       replace hb100 := hb100.upd hG116 (by omega)
       refine m_nil3 (r_forget [(3, .pointer _), (4, .pointer _), (5, .pointer _), (7, .pointer _), (8, .pointer _), (9, .pointer _), (10, .pointer _)] ⟨rfl, rfl, rfl, rfl, rfl, rfl, rfl, trivial⟩ (fun e117 => ?_))
       exact hj9 (b100, b114) _ _ ⟨⟨rfl, rfl, rfl, rfl, rfl, rfl, rfl, trivial⟩, hb100, hb114, hb1, hb2, hb3, hb5, hb6, hsz, hB⟩
    ·
     refine m_o3 rfl rfl (o_call Tryz.call100 rfl (place_ret a _) rfl ?_)
     rintro _ w118 ⟨rfl, hE118⟩
     refine ⟨⟨(fun h => h.ext hE118), (fun h => h.ext hE118)⟩, ?_⟩
     replace hB := below_ext hB hE118 hsz
     replace hb1 := hb1.ext hE118
     replace hb2 := hb2.ext hE118
     replace hb3 := hb3.ext hE118
     replace hb5 := hb5.ext hE118
     replace hb6 := hb6.ext hE118
     replace hsz := Nat.le_trans hsz hE118.size
     refine m_fork3 ?_ ?_
     ·
      refine m_o3 rfl rfl (o_alloc Tryz.zeroValue163 rfl rfl ?_)
      intro b119 w119 hzl119 hzr119 _ hb119 hE119
      refine ⟨⟨(fun h => h.ext hE119), (fun h => h.ext hE119)⟩, ?_⟩
      have hne_b1_b119 : b1 ≠ b119 := by have := hb1.lt; omega
      have hne_b2_b119 : b2 ≠ b119 := by have := hb2.lt; omega
      have hne_b3_b119 : b3 ≠ b119 := by have := hb3.lt; omega
      have hne_b5_b119 : b5 ≠ b119 := by have := hb5.lt; omega
      have hne_b6_b119 : b6 ≠ b119 := by have := hb6.lt; omega
      have hbs_b119 : w.heap.size ≤ b119 := Nat.le_trans hsz hzl119
      replace hB := below_ext hB hE119 hsz
      replace hb1 := hb1.ext hE119
      replace hb2 := hb2.ext hE119
      replace hb3 := hb3.ext hE119
      replace hb5 := hb5.ext hE119
      replace hb6 := hb6.ext hE119
      replace hsz := Nat.le_trans hsz hE119.size
      refine m_fork3 ?_ ?_
      ·
       refine m_o3 rfl rfl (o_alloc Tryz.zeroValue163 rfl rfl ?_)
       intro b120 w120 hzl120 hzr120 _ hb120 hE120
       refine ⟨⟨(fun h => h.ext hE120), (fun h => h.ext hE120)⟩, ?_⟩
       have hne_b1_b120 : b1 ≠ b120 := by have := hb1.lt; omega
       have hne_b2_b120 : b2 ≠ b120 := by have := hb2.lt; omega
       have hne_b3_b120 : b3 ≠ b120 := by have := hb3.lt; omega
       have hne_b5_b120 : b5 ≠ b120 := by have := hb5.lt; omega
       have hne_b6_b120 : b6 ≠ b120 := by have := hb6.lt; omega
       have hne_b119_b120 : b119 ≠ b120 := by have := hb119.lt; omega
       have hbs_b120 : w.heap.size ≤ b120 := Nat.le_trans hsz hzl120
       replace hB := below_ext hB hE120 hsz
       replace hb1 := hb1.ext hE120
       replace hb2 := hb2.ext hE120
       replace hb3 := hb3.ext hE120
       replace hb5 := hb5.ext hE120
       replace hb6 := hb6.ext hE120
       replace hb119 := hb119.ext hE120
       replace hsz := Nat.le_trans hsz hE120.size
       refine m_o3 rfl rfl (o_call Tryz.call100 rfl (place_ret b _) rfl ?_)
       rintro _ w121 ⟨rfl, hE121⟩
       refine ⟨⟨(fun h => h.ext hE121), (fun h => h.ext hE121)⟩, ?_⟩
       replace hB := below_ext hB hE121 hsz
       replace hb1 := hb1.ext hE121
       replace hb2 := hb2.ext hE121
       replace hb3 := hb3.ext hE121
       replace hb5 := hb5.ext hE121
       replace hb6 := hb6.ext hE121
       replace hb119 := hb119.ext hE121
       replace hb120 := hb120.ext hE121
       replace hsz := Nat.le_trans hsz hE121.size
       refine m_o3 rfl rfl (o_store (vs := [vint a.x, vint a.y]) (cs' := [vint a.x, vint a.y]) Tryz.sizeOf163 rfl rfl rfl rfl hb120 (Nat.le_of_ble_eq_true rfl) rfl rfl ?_)
       intro w122 hz122 hb120 hG122
       refine ⟨⟨(fun h => h.upd hG122 (by omega)), (fun h => h.upd hG122 (by omega))⟩, ?_⟩
       replace hB := below_upd hB hG122 hsz (by omega)
       replace hsz : w.heap.size ≤ w122.heap.size := by rw [hz122]; exact hsz
       replace hb1 := hb1.upd hG122 (by omega)
       replace hb2 := hb2.upd hG122 (by omega)
       replace hb3 := hb3.upd hG122 (by omega)
       replace hb5 := hb5.upd hG122 (by omega)
       replace hb6 := hb6.upd hG122 (by omega)
       replace hb119 := hb119.upd hG122 (by omega)
       refine m_last3 rfl rfl rfl (o_store (vs := [vint b.x, vint b.y]) (cs' := [vint b.x, vint b.y]) Tryz.sizeOf163 rfl rfl rfl rfl hb119 (Nat.le_of_ble_eq_true rfl) rfl rfl ?_)
       intro w123 hz123 hb119 hG123
       replace hB := below_upd hB hG123 hsz (by omega)
       replace hsz : w.heap.size ≤ w123.heap.size := by rw [hz123]; exact hsz
       replace hb1 := hb1.upd hG123 (by omega)
       replace hb2 := hb2.upd hG123 (by omega)
       replace hb3 := hb3.upd hG123 (by omega)
       replace hb5 := hb5.upd hG123 (by omega)
       replace hb6 := hb6.upd hG123 (by omega)
       replace hb120 := hb120.upd hG123 (by omega)
       refine m_nil3 (r_forget [(3, .pointer _), (4, .pointer _), (5, .pointer _), (7, .pointer _), (8, .pointer _), (9, .pointer _), (10, .pointer _)] ⟨rfl, rfl, rfl, rfl, rfl, rfl, rfl, trivial⟩ (fun e124 => ?_))
       exact hj9 (b120, b119) _ _ ⟨⟨rfl, rfl, rfl, rfl, rfl, rfl, rfl, trivial⟩, hb120, hb119, hb1, hb2, hb3, hb5, hb6, hsz, hB⟩
      ·
       refine m_o3 rfl rfl (o_call Tryz.call100 rfl (place_ret b _) rfl ?_)
       rintro _ w125 ⟨rfl, hE125⟩
       refine ⟨⟨(fun h => h.ext hE125), (fun h => h.ext hE125)⟩, ?_⟩
       replace hB := below_ext hB hE125 hsz
       replace hb1 := hb1.ext hE125
       replace hb2 := hb2.ext hE125
       replace hb3 := hb3.ext hE125
       replace hb5 := hb5.ext hE125
       replace hb6 := hb6.ext hE125
       replace hb119 := hb119.ext hE125
       replace hsz := Nat.le_trans hsz hE125.size
       refine m_o3 rfl rfl (o_alloc Tryz.zeroValue163 rfl rfl ?_)
       intro b126 w126 hzl126 hzr126 _ hb126 hE126
       refine ⟨⟨(fun h => h.ext hE126), (fun h => h.ext hE126)⟩, ?_⟩
       have hne_b1_b126 : b1 ≠ b126 := by have := hb1.lt; omega
       have hne_b2_b126 : b2 ≠ b126 := by have := hb2.lt; omega
       have hne_b3_b126 : b3 ≠ b126 := by have := hb3.lt; omega
       have hne_b5_b126 : b5 ≠ b126 := by have := hb5.lt; omega
       have hne_b6_b126 : b6 ≠ b126 := by have := hb6.lt; omega
       have hne_b119_b126 : b119 ≠ b126 := by have := hb119.lt; omega
       have hbs_b126 : w.heap.size ≤ b126 := Nat.le_trans hsz hzl126
       replace hB := below_ext hB hE126 hsz
       replace hb1 := hb1.ext hE126
       replace hb2 := hb2.ext hE126
       replace hb3 := hb3.ext hE126
       replace hb5 := hb5.ext hE126
       replace hb6 := hb6.ext hE126
       replace hb119 := hb119.ext hE126
       replace hsz := Nat.le_trans hsz hE126.size
       refine m_o3 rfl rfl (o_store (vs := [vint a.x, vint a.y]) (cs' := [vint a.x, vint a.y]) Tryz.sizeOf163 rfl rfl rfl rfl hb126 (Nat.le_of_ble_eq_true rfl) rfl rfl ?_)
       intro w127 hz127 hb126 hG127
       refine ⟨⟨(fun h => h.upd hG127 (by omega)), (fun h => h.upd hG127 (by omega))⟩, ?_⟩
       replace hB := below_upd hB hG127 hsz (by omega)
       replace hsz : w.heap.size ≤ w127.heap.size := by rw [hz127]; exact hsz
       replace hb1 := hb1.upd hG127 (by omega)
       replace hb2 := hb2.upd hG127 (by omega)
       replace hb3 := hb3.upd hG127 (by omega)
       replace hb5 := hb5.upd hG127 (by omega)
       replace hb6 := hb6.upd hG127 (by omega)
       replace hb119 := hb119.upd hG127 (by omega)
       refine m_last3 rfl rfl rfl (o_store (vs := [vint b.x, vint b.y]) (cs' := [vint b.x, vint b.y]) Tryz.sizeOf163 rfl rfl rfl rfl hb119 (Nat.le_of_ble_eq_true rfl) rfl rfl ?_)
       intro w128 hz128 hb119 hG128
       replace hB := below_upd hB hG128 hsz (by omega)
       replace hsz : w.heap.size ≤ w128.heap.size := by rw [hz128]; exact hsz
       replace hb1 := hb1.upd hG128 (by omega)
       replace hb2 := hb2.upd hG128 (by omega)
       replace hb3 := hb3.upd hG128 (by omega)
       replace hb5 := hb5.upd hG128 (by omega)
       replace hb6 := hb6.upd hG128 (by omega)
       replace hb126 := hb126.upd hG128 (by omega)
       refine m_nil3 (r_forget [(3, .pointer _), (4, .pointer _), (5, .pointer _), (7, .pointer _), (8, .pointer _), (9, .pointer _), (10, .pointer _)] ⟨rfl, rfl, rfl, rfl, rfl, rfl, rfl, trivial⟩ (fun e129 => ?_))
       exact hj9 (b126, b119) _ _ ⟨⟨rfl, rfl, rfl, rfl, rfl, rfl, rfl, trivial⟩, hb126, hb119, hb1, hb2, hb3, hb5, hb6, hsz, hB⟩
     ·
      refine m_fork3 ?_ ?_
      ·
       refine m_o3 rfl rfl (o_alloc Tryz.zeroValue163 rfl rfl ?_)
       intro b130 w130 hzl130 hzr130 _ hb130 hE130
       refine ⟨⟨(fun h => h.ext hE130), (fun h => h.ext hE130)⟩, ?_⟩
       have hne_b1_b130 : b1 ≠ b130 := by have := hb1.lt; omega
       have hne_b2_b130 : b2 ≠ b130 := by have := hb2.lt; omega
       have hne_b3_b130 : b3 ≠ b130 := by have := hb3.lt; omega
       have hne_b5_b130 : b5 ≠ b130 := by have := hb5.lt; omega
       have hne_b6_b130 : b6 ≠ b130 := by have := hb6.lt; omega
       have hbs_b130 : w.heap.size ≤ b130 := Nat.le_trans hsz hzl130
       replace hB := below_ext hB hE130 hsz
       replace hb1 := hb1.ext hE130
       replace hb2 := hb2.ext hE130
       replace hb3 := hb3.ext hE130
       replace hb5 := hb5.ext hE130
       replace hb6 := hb6.ext hE130
       replace hsz := Nat.le_trans hsz hE130.size
       refine m_fork3 ?_ ?_
       ·
        refine m_o3 rfl rfl (o_alloc Tryz.zeroValue163 rfl rfl ?_)
        intro b131 w131 hzl131 hzr131 _ hb131 hE131
        refine ⟨⟨(fun h => h.ext hE131), (fun h => h.ext hE131)⟩, ?_⟩
        have hne_b1_b131 : b1 ≠ b131 := by have := hb1.lt; omega
        have hne_b2_b131 : b2 ≠ b131 := by have := hb2.lt; omega
        have hne_b3_b131 : b3 ≠ b131 := by have := hb3.lt; omega
        have hne_b5_b131 : b5 ≠ b131 := by have := hb5.lt; omega
        have hne_b6_b131 : b6 ≠ b131 := by have := hb6.lt; omega
        have hne_b130_b131 : b130 ≠ b131 := by have := hb130.lt; omega
        have hbs_b131 : w.heap.size ≤ b131 := Nat.le_trans hsz hzl131
        replace hB := below_ext hB hE131 hsz
        replace hb1 := hb1.ext hE131
        replace hb2 := hb2.ext hE131
        replace hb3 := hb3.ext hE131
        replace hb5 := hb5.ext hE131
        replace hb6 := hb6.ext hE131
        replace hb130 := hb130.ext hE131
        replace hsz := Nat.le_trans hsz hE131.size
        refine m_o3 rfl rfl (o_call Tryz.call100 rfl (place_ret b _) rfl ?_)
        rintro _ w132 ⟨rfl, hE132⟩
        refine ⟨⟨(fun h => h.ext hE132), (fun h => h.ext hE132)⟩, ?_⟩
        replace hB := below_ext hB hE132 hsz
        replace hb1 := hb1.ext hE132
        replace hb2 := hb2.ext hE132
        replace hb3 := hb3.ext hE132
        replace hb5 := hb5.ext hE132
        replace hb6 := hb6.ext hE132
        replace hb130 := hb130.ext hE132
        replace hb131 := hb131.ext hE132
        replace hsz := Nat.le_trans hsz hE132.size
        refine m_o3 rfl rfl (o_store (vs := [vint a.x, vint a.y]) (cs' := [vint a.x, vint a.y]) Tryz.sizeOf163 rfl rfl rfl rfl hb130 (Nat.le_of_ble_eq_true rfl) rfl rfl ?_)
        intro w133 hz133 hb130 hG133
        refine ⟨⟨(fun h => h.upd hG133 (by omega)), (fun h => h.upd hG133 (by omega))⟩, ?_⟩
        replace hB := below_upd hB hG133 hsz (by omega)
        replace hsz : w.heap.size ≤ w133.heap.size := by rw [hz133]; exact hsz
        replace hb1 := hb1.upd hG133 (by omega)
        replace hb2 := hb2.upd hG133 (by omega)
        replace hb3 := hb3.upd hG133 (by omega)
        replace hb5 := hb5.upd hG133 (by omega)
        replace hb6 := hb6.upd hG133 (by omega)
        replace hb131 := hb131.upd hG133 (by omega)
        refine m_last3 rfl rfl rfl (o_store (vs := [vint b.x, vint b.y]) (cs' := [vint b.x, vint b.y]) Tryz.sizeOf163 rfl rfl rfl rfl hb131 (Nat.le_of_ble_eq_true rfl) rfl rfl ?_)
        intro w134 hz134 hb131 hG134
        replace hB := below_upd hB hG134 hsz (by omega)
        replace hsz : w.heap.size ≤ w134.heap.size := by rw [hz134]; exact hsz
        replace hb1 := hb1.upd hG134 (by omega)
        replace hb2 := hb2.upd hG134 (by omega)
        replace hb3 := hb3.upd hG134 (by omega)
        replace hb5 := hb5.upd hG134 (by omega)
        replace hb6 := hb6.upd hG134 (by omega)
        replace hb130 := hb130.upd hG134 (by omega)
        refine m_nil3 (r_forget [(3, .pointer _), (4, .pointer _), (5, .pointer _), (7, .pointer _), (8, .pointer _), (9, .pointer _), (10, .pointer _)] ⟨rfl, rfl, rfl, rfl, rfl, rfl, rfl, trivial⟩ (fun e135 => ?_))
        exact hj9 (b130, b131) _ _ ⟨⟨rfl, rfl, rfl, rfl, rfl, rfl, rfl, trivial⟩, hb130, hb131, hb1, hb2, hb3, hb5, hb6, hsz, hB⟩
       ·
        refine m_o3 rfl rfl (o_call Tryz.call100 rfl (place_ret b _) rfl ?_)
        rintro _ w136 ⟨rfl, hE136⟩
        refine ⟨⟨(fun h => h.ext hE136), (fun h => h.ext hE136)⟩, ?_⟩
        replace hB := below_ext hB hE136 hsz
        replace hb1 := hb1.ext hE136
        replace hb2 := hb2.ext hE136
        replace hb3 := hb3.ext hE136
        replace hb5 := hb5.ext hE136
        replace hb6 := hb6.ext hE136
        replace hb130 := hb130.ext hE136
        replace hsz := Nat.le_trans hsz hE136.size
        refine m_o3 rfl rfl (o_alloc Tryz.zeroValue163 rfl rfl ?_)
        intro b137 w137 hzl137 hzr137 _ hb137 hE137
        refine ⟨⟨(fun h => h.ext hE137), (fun h => h.ext hE137)⟩, ?_⟩
        have hne_b1_b137 : b1 ≠ b137 := by have := hb1.lt; omega
        have hne_b2_b137 : b2 ≠ b137 := by have := hb2.lt; omega
        have hne_b3_b137 : b3 ≠ b137 := by have := hb3.lt; omega
        have hne_b5_b137 : b5 ≠ b137 := by have := hb5.lt; omega
        have hne_b6_b137 : b6 ≠ b137 := by have := hb6.lt; omega
        have hne_b130_b137 : b130 ≠ b137 := by have := hb130.lt; omega
        have hbs_b137 : w.heap.size ≤ b137 := Nat.le_trans hsz hzl137
        replace hB := below_ext hB hE137 hsz
        replace hb1 := hb1.ext hE137
        replace hb2 := hb2.ext hE137
        replace hb3 := hb3.ext hE137
        replace hb5 := hb5.ext hE137
        replace hb6 := hb6.ext hE137
        replace hb130 := hb130.ext hE137
        replace hsz := Nat.le_trans hsz hE137.size
        refine m_o3 rfl rfl (o_store (vs := [vint a.x, vint a.y]) (cs' := [vint a.x, vint a.y]) Tryz.sizeOf163 rfl rfl rfl rfl hb130 (Nat.le_of_ble_eq_true rfl) rfl rfl ?_)
        intro w138 hz138 hb130 hG138
        refine ⟨⟨(fun h => h.upd hG138 (by omega)), (fun h => h.upd hG138 (by omega))⟩, ?_⟩
        replace hB := below_upd hB hG138 hsz (by omega)
        replace hsz : w.heap.size ≤ w138.heap.size := by rw [hz138]; exact hsz
        replace hb1 := hb1.upd hG138 (by omega)
        replace hb2 := hb2.upd hG138 (by omega)
        replace hb3 := hb3.upd hG138 (by omega)
        replace hb5 := hb5.upd hG138 (by omega)
        replace hb6 := hb6.upd hG138 (by omega)
        replace hb137 := hb137.upd hG138 (by omega)
        refine m_last3 rfl rfl rfl (o_store (vs := [vint b.x, vint b.y]) (cs' := [vint b.x, vint b.y]) Tryz.sizeOf163 rfl rfl rfl rfl hb137 (Nat.le_of_ble_eq_true rfl) rfl rfl ?_)
        intro w139 hz139 hb137 hG139
        replace hB := below_upd hB hG139 hsz (by omega)
        replace hsz : w.heap.size ≤ w139.heap.size := by rw [hz139]; exact hsz
        replace hb1 := hb1.upd hG139 (by omega)
        replace hb2 := hb2.upd hG139 (by omega)
        replace hb3 := hb3.upd hG139 (by omega)
        replace hb5 := hb5.upd hG139 (by omega)
        replace hb6 := hb6.upd hG139 (by omega)
        replace hb130 := hb130.upd hG139 (by omega)
        refine m_nil3 (r_forget [(3, .pointer _), (4, .pointer _), (5, .pointer _), (7, .pointer _), (8, .pointer _), (9, .pointer _), (10, .pointer _)] ⟨rfl, rfl, rfl, rfl, rfl, rfl, rfl, trivial⟩ (fun e140 => ?_))
        exact hj9 (b130, b137) _ _ ⟨⟨rfl, rfl, rfl, rfl, rfl, rfl, rfl, trivial⟩, hb130, hb137, hb1, hb2, hb3, hb5, hb6, hsz, hB⟩
      ·
       refine m_o3 rfl rfl (o_call Tryz.call100 rfl (place_ret b _) rfl ?_)
       rintro _ w141 ⟨rfl, hE141⟩
       refine ⟨⟨(fun h => h.ext hE141), (fun h => h.ext hE141)⟩, ?_⟩
       replace hB := below_ext hB hE141 hsz
       replace hb1 := hb1.ext hE141
       replace hb2 := hb2.ext hE141
       replace hb3 := hb3.ext hE141
       replace hb5 := hb5.ext hE141
       replace hb6 := hb6.ext hE141
       replace hsz := Nat.le_trans hsz hE141.size
       refine m_fork3 ?_ ?_
       ·
        refine m_o3 rfl rfl (o_alloc Tryz.zeroValue163 rfl rfl ?_)
        intro b142 w142 hzl142 hzr142 _ hb142 hE142
        refine ⟨⟨(fun h => h.ext hE142), (fun h => h.ext hE142)⟩, ?_⟩
        have hne_b1_b142 : b1 ≠ b142 := by have := hb1.lt; omega
        have hne_b2_b142 : b2 ≠ b142 := by have := hb2.lt; omega
        have hne_b3_b142 : b3 ≠ b142 := by have := hb3.lt; omega
        have hne_b5_b142 : b5 ≠ b142 := by have := hb5.lt; omega
        have hne_b6_b142 : b6 ≠ b142 := by have := hb6.lt; omega
        have hbs_b142 : w.heap.size ≤ b142 := Nat.le_trans hsz hzl142
        replace hB := below_ext hB hE142 hsz
        replace hb1 := hb1.ext hE142
        replace hb2 := hb2.ext hE142
        replace hb3 := hb3.ext hE142
        replace hb5 := hb5.ext hE142
        replace hb6 := hb6.ext hE142
        replace hsz := Nat.le_trans hsz hE142.size
        refine m_o3 rfl rfl (o_alloc Tryz.zeroValue163 rfl rfl ?_)
        intro b143 w143 hzl143 hzr143 _ hb143 hE143
        refine ⟨⟨(fun h => h.ext hE143), (fun h => h.ext hE143)⟩, ?_⟩
        have hne_b1_b143 : b1 ≠ b143 := by have := hb1.lt; omega
        have hne_b2_b143 : b2 ≠ b143 := by have := hb2.lt; omega
        have hne_b3_b143 : b3 ≠ b143 := by have := hb3.lt; omega
        have hne_b5_b143 : b5 ≠ b143 := by have := hb5.lt; omega
        have hne_b6_b143 : b6 ≠ b143 := by have := hb6.lt; omega
        have hne_b142_b143 : b142 ≠ b143 := by have := hb142.lt; omega
        have hbs_b143 : w.heap.size ≤ b143 := Nat.le_trans hsz hzl143
        replace hB := below_ext hB hE143 hsz
        replace hb1 := hb1.ext hE143
        replace hb2 := hb2.ext hE143
        replace hb3 := hb3.ext hE143
        replace hb5 := hb5.ext hE143
        replace hb6 := hb6.ext hE143
        replace hb142 := hb142.ext hE143
        replace hsz := Nat.le_trans hsz hE143.size
        refine m_o3 rfl rfl (o_store (vs := [vint a.x, vint a.y]) (cs' := [vint a.x, vint a.y]) Tryz.sizeOf163 rfl rfl rfl rfl hb143 (Nat.le_of_ble_eq_true rfl) rfl rfl ?_)
        intro w144 hz144 hb143 hG144
        refine ⟨⟨(fun h => h.upd hG144 (by omega)), (fun h => h.upd hG144 (by omega))⟩, ?_⟩
        replace hB := below_upd hB hG144 hsz (by omega)
        replace hsz : w.heap.size ≤ w144.heap.size := by rw [hz144]; exact hsz
        replace hb1 := hb1.upd hG144 (by omega)
        replace hb2 := hb2.upd hG144 (by omega)
        replace hb3 := hb3.upd hG144 (by omega)
        replace hb5 := hb5.upd hG144 (by omega)
        replace hb6 := hb6.upd hG144 (by omega)
        replace hb142 := hb142.upd hG144 (by omega)
        refine m_last3 rfl rfl rfl (o_store (vs := [vint b.x, vint b.y]) (cs' := [vint b.x, vint b.y]) Tryz.sizeOf163 rfl rfl rfl rfl hb142 (Nat.le_of_ble_eq_true rfl) rfl rfl ?_)
        intro w145 hz145 hb142 hG145
        replace hB := below_upd hB hG145 hsz (by omega)
        replace hsz : w.heap.size ≤ w145.heap.size := by rw [hz145]; exact hsz
        replace hb1 := hb1.upd hG145 (by omega)
        replace hb2 := hb2.upd hG145 (by omega)
        replace hb3 := hb3.upd hG145 (by omega)
        replace hb5 := hb5.upd hG145 (by omega)
        replace hb6 := hb6.upd hG145 (by omega)
        replace hb143 := hb143.upd hG145 (by omega)
        refine m_nil3 (r_forget [(3, .pointer _), (4, .pointer _), (5, .pointer _), (7, .pointer _), (8, .pointer _), (9, .pointer _), (10, .pointer _)] ⟨rfl, rfl, rfl, rfl, rfl, rfl, rfl, trivial⟩ (fun e146 => ?_))
        exact hj9 (b143, b142) _ _ ⟨⟨rfl, rfl, rfl, rfl, rfl, rfl, rfl, trivial⟩, hb143, hb142, hb1, hb2, hb3, hb5, hb6, hsz, hB⟩
       ·
        refine m_o3 rfl rfl (o_alloc Tryz.zeroValue163 rfl rfl ?_)
        intro b147 w147 hzl147 hzr147 _ hb147 hE147
        refine ⟨⟨(fun h => h.ext hE147), (fun h => h.ext hE147)⟩, ?_⟩
        have hne_b1_b147 : b1 ≠ b147 := by have := hb1.lt; omega
        have hne_b2_b147 : b2 ≠ b147 := by have := hb2.lt; omega
        have hne_b3_b147 : b3 ≠ b147 := by have := hb3.lt; omega
        have hne_b5_b147 : b5 ≠ b147 := by have := hb5.lt; omega
        have hne_b6_b147 : b6 ≠ b147 := by have := hb6.lt; omega
        have hbs_b147 : w.heap.size ≤ b147 := Nat.le_trans hsz hzl147
        replace hB := below_ext hB hE147 hsz
        replace hb1 := hb1.ext hE147
        replace hb2 := hb2.ext hE147
        replace hb3 := hb3.ext hE147
        replace hb5 := hb5.ext hE147
        replace hb6 := hb6.ext hE147
        replace hsz := Nat.le_trans hsz hE147.size
        refine m_o3 rfl rfl (o_alloc Tryz.zeroValue163 rfl rfl ?_)
        intro b148 w148 hzl148 hzr148 _ hb148 hE148
        refine ⟨⟨(fun h => h.ext hE148), (fun h => h.ext hE148)⟩, ?_⟩
        have hne_b1_b148 : b1 ≠ b148 := by have := hb1.lt; omega
        have hne_b2_b148 : b2 ≠ b148 := by have := hb2.lt; omega
        have hne_b3_b148 : b3 ≠ b148 := by have := hb3.lt; omega
        have hne_b5_b148 : b5 ≠ b148 := by have := hb5.lt; omega
        have hne_b6_b148 : b6 ≠ b148 := by have := hb6.lt; omega
        have hne_b147_b148 : b147 ≠ b148 := by have := hb147.lt; omega
        have hbs_b148 : w.heap.size ≤ b148 := Nat.le_trans hsz hzl148
        replace hB := below_ext hB hE148 hsz
        replace hb1 := hb1.ext hE148
        replace hb2 := hb2.ext hE148
        replace hb3 := hb3.ext hE148
        replace hb5 := hb5.ext hE148
        replace hb6 := hb6.ext hE148
        replace hb147 := hb147.ext hE148
        replace hsz := Nat.le_trans hsz hE148.size
        refine m_o3 rfl rfl (o_store (vs := [vint a.x, vint a.y]) (cs' := [vint a.x, vint a.y]) Tryz.sizeOf163 rfl rfl rfl rfl hb147 (Nat.le_of_ble_eq_true rfl) rfl rfl ?_)
        intro w149 hz149 hb147 hG149
        refine ⟨⟨(fun h => h.upd hG149 (by omega)), (fun h => h.upd hG149 (by omega))⟩, ?_⟩
        replace hB := below_upd hB hG149 hsz (by omega)
        replace hsz : w.heap.size ≤ w149.heap.size := by rw [hz149]; exact hsz
        replace hb1 := hb1.upd hG149 (by omega)
        replace hb2 := hb2.upd hG149 (by omega)
        replace hb3 := hb3.upd hG149 (by omega)
        replace hb5 := hb5.upd hG149 (by omega)
        replace hb6 := hb6.upd hG149 (by omega)
        replace hb148 := hb148.upd hG149 (by omega)
        refine m_last3 rfl rfl rfl (o_store (vs := [vint b.x, vint b.y]) (cs' := [vint b.x, vint b.y]) Tryz.sizeOf163 rfl rfl rfl rfl hb148 (Nat.le_of_ble_eq_true rfl) rfl rfl ?_)
        intro w150 hz150 hb148 hG150
        replace hB := below_upd hB hG150 hsz (by omega)
        replace hsz : w.heap.size ≤ w150.heap.size := by rw [hz150]; exact hsz
        replace hb1 := hb1.upd hG150 (by omega)
        replace hb2 := hb2.upd hG150 (by omega)
        replace hb3 := hb3.upd hG150 (by omega)
        replace hb5 := hb5.upd hG150 (by omega)
        replace hb6 := hb6.upd hG150 (by omega)
        replace hb147 := hb147.upd hG150 (by omega)
        refine m_nil3 (r_forget [(3, .pointer _), (4, .pointer _), (5, .pointer _), (7, .pointer _), (8, .pointer _), (9, .pointer _), (10, .pointer _)] ⟨rfl, rfl, rfl, rfl, rfl, rfl, rfl, trivial⟩ (fun e151 => ?_))
        exact hj9 (b147, b148) _ _ ⟨⟨rfl, rfl, rfl, rfl, rfl, rfl, rfl, trivial⟩, hb147, hb148, hb1, hb2, hb3, hb5, hb6, hsz, hB⟩
end Go.Proofs.YtbikicakdkbcgacGreat
