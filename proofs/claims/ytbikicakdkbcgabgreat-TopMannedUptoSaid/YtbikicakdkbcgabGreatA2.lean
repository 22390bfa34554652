/- Contracts. -/
import Derived.Test.YtbikicakdkbcgabGreatA1
set_option linter.unusedVariables false
set_option linter.unusedSimpArgs false
namespace Go.Proofs.YtbikicakdkbcgabGreat
open Go Go.RowKit Go.Gv Go.Fl
/-! ### What a work keeps; the least oil -/
structure LwH (w : World) (cap can s0 s1 : Int) (sa : Option Addr) (sc : Nat) (ns : List NT) (ka : Option Addr) (kc : Nat) (cs : List Int) (wb sb kb m : Nat) : Prop where
  blk : Blk w wb [vint cap, vint can, vint s0, vint s1, .slice sa ns.length sc, .func (.func 25) ⟨[]⟩ ⟨[ptr sb 0]⟩, .func (.func 26) ⟨[]⟩ ⟨[ptr sb 0]⟩, .func (.func 27) ⟨[]⟩ ⟨[ptr sb 0]⟩, .func (.func 28) ⟨[]⟩ ⟨[ptr kb 0]⟩, .map (some m)]
  sbk : Blk w sb [vint cap, vint can, vint s0, vint s1, .slice sa ns.length sc]
  kbk : Blk w kb [.slice ka cs.length kc]
  rN : Row w sa ns.length sc 5 (ns.flatMap NT.enc)
  rC : Row w ka cs.length kc 1 (cs.map vint)
section
variable {w w' : World} {cap can s0 s1 : Int} {sa : Option Addr} {sc : Nat} {ns : List NT} {ka : Option Addr} {kc : Nat} {cs : List Int} {wb sb kb m : Nat}
theorem LwH.gm {es : List MapEntry} {clock : Nat} (h : LwH w cap can s0 s1 sa sc ns ka kc cs wb sb kb m) (hM : MapAt w m es clock) (hg : w.grownBy w' (some m)) : LwH w' cap can s0 s1 sa sc ns ka kc cs wb sb kb m :=
  ⟨h.blk.gm hM hg, h.sbk.gm hM hg, h.kbk.gm hM hg, h.rN.gm hM hg, h.rC.gm hM hg⟩
theorem LwH.ext (h : LwH w cap can s0 s1 sa sc ns ka kc cs wb sb kb m) (hE : Ext w w') : LwH w' cap can s0 s1 sa sc ns ka kc cs wb sb kb m := ⟨h.blk.ext hE, h.sbk.ext hE, h.kbk.ext hE, h.rN.ext hE, h.rC.ext hE⟩
theorem LwH.below (h : LwH w cap can s0 s1 sa sc ns ka kc cs wb sb kb m) (hB : Below w.heap.size w w') : LwH w' cap can s0 s1 sa sc ns ka kc cs wb sb kb m := h.ext (.of_below hB)
end

theorem cost_bnd {n : NT} {wk : Int} (h : 1 ≤ n.h ∧ n.h ≤ 14) (hw : 0 ≤ wk ∧ wk ≤ 4) : -56 ≤ -wk * n.h ∧ -wk * n.h ≤ 0 := by
  have h1 : 0 ≤ wk * n.h := Int.mul_nonneg hw.1 (by omega)
  have h2 : wk * n.h ≤ 4 * 14 := Int.mul_le_mul hw.2 h.2 (by omega) (by omega)
  rw [Int.neg_mul]
  omega
/-- the least oil after a night, and whether it is surely lit -/
def stL (cap can s0 s1 : Int) (ns : List NT) (cs : List Int) (k : Nat) (n oil : Int) : Int := leftI cap can (ns.getD k nt0) (cs.getD k 0) n (ns.getD k nt0).hi oil
def stB (cap can s0 s1 : Int) (ns : List NT) (cs : List Int) (k : Nat) (n oil : Int) : Bool := litI cap can (ns.getD k nt0) (cs.getD k 0) n (ns.getD k nt0).hi oil
theorem stL_bnd {cap can s0 s1 : Int} {ns : List NT} {cs : List Int} {k : Nat} {n oil : Int} (hok : OkS cap can s0 s1 ns) (hcn : CansP ns cs) (hk : k < ns.length) (hn : 0 ≤ n ∧ n ≤ 4) (ho : 0 ≤ oil ∧ oil ≤ 400) : 0 ≤ stL cap can s0 s1 ns cs k n oil ∧ stL cap can s0 s1 ns cs k n oil ≤ 400 := by
  have h1 := fill_bnd hok.cap1 hok.can1 ho (hcn.2 k (by have := hcn.1; omega))
  have h2 := hok.at hk
  exact left_bnd h1.2.2 (want_bnd h2.1 hn (by omega)).2.2.1

theorem fld150_0 (w : World) (b o : Nat) : (Instr.fieldAt 150 (ptr b o) 0).run Tryz.prog w = .ok (ptr b (o + 0)) w := by
  simp [Instr.fieldAt, run_underlying Tryz.underlying150, fieldPlace, Instr.sureAddr, Tryz.sizeOf147, Addr.add_lit]
theorem fld85_4 (w : World) (b o : Nat) : (Instr.fieldAt 85 (ptr b o) 4).run Tryz.prog w = .ok (ptr b (o + 8)) w := by
  simp [Instr.fieldAt, run_underlying Tryz.underlying85, fieldPlace, Instr.sureAddr, Tryz.sizeOf83, Addr.add_lit]
theorem fld120_0 (w : World) (b o : Nat) : (Instr.fieldAt 120 (ptr b o) 0).run Tryz.prog w = .ok (ptr b (o + 0)) w := by
  simp [Instr.fieldAt, run_underlying Tryz.underlying120, fieldPlace, Instr.sureAddr, Tryz.sizeOf3, Addr.add_lit]
theorem fld85_0 (w : World) (b o : Nat) : (Instr.fieldAt 85 (ptr b o) 0).run Tryz.prog w = .ok (ptr b (o + 0)) w := by
  simp [Instr.fieldAt, run_underlying Tryz.underlying85, fieldPlace, Instr.sureAddr, Tryz.sizeOf46, Addr.add_lit]
theorem fld120_1 (w : World) (b o : Nat) : (Instr.fieldAt 120 (ptr b o) 1).run Tryz.prog w = .ok (ptr b (o + 1)) w := by
  simp [Instr.fieldAt, run_underlying Tryz.underlying120, fieldPlace, Instr.sureAddr, Tryz.sizeOf3, Addr.add_lit]
theorem filled_ret (cap can s0 s1 : Int) (sa : Option Addr) (sc : Nat) (ns : List NT) (oil c : Int) (w : World) (hcap : 1 ≤ cap ∧ cap ≤ 400) (hcan : 1 ≤ can ∧ can ≤ 200) (hoil : 0 ≤ oil ∧ oil ≤ 400) (hc : 0 ≤ c ∧ c ≤ 2) : Ret Tryz.prog 36 [.agg ⟨[vint cap, vint can, vint s0, vint s1, .slice sa ns.length sc]⟩, vint oil, vint c] w (fun v w' => v = .tuple ⟨[vint (fillI cap can oil c), vint (oil + c * can - fillI cap can oil c)]⟩ ∧ Ext w w') := by
 obtain ⟨hb1, hb2, hb3, hb4⟩ := fill_bnd hcap hcan hoil hc
 have hB := Below.refl w.heap.size w
 have hsz : w.heap.size ≤ w.heap.size := Nat.le_refl _
 refine ret_of_runs (args := [_, _, _]) Tryz.func36 rfl (Nat.le_of_ble_eq_true rfl) (by kernel_rfl) (r_seq (r_region' (l_o (o_box rfl rfl rfl ?_))))
 intro b1 w1 hzl1 hzr1 _ hb1 hE1
 have hbs_b1 : w.heap.size ≤ b1 := Nat.le_trans hsz hzl1
 replace hB := below_ext hB hE1 hsz
 replace hsz := Nat.le_trans hsz hE1.size
 refine l_q (qai rfl rfl) (l_q (qai rfl rfl) (l_nil (r_seq (r_region' (l_q (q_fieldAddr (o' := 0) rfl fld46_0 rfl) (l_q (q_load Tryz.isAgg3 rfl ((hb1.has (o := 0) rfl)) rfl) (l_q (qmi rfl rfl) (l_q (qmi rfl rfl) (l_q (q_fieldAddr (o' := 1) rfl fld46_1 rfl) (l_q (q_load Tryz.isAgg3 rfl ((hb1.has (o := 1) rfl)) rfl) (l_q (q_mul rfl rfl (by omega) rfl) (l_q (q_add rfl rfl (by omega) rfl) (l_o (o_buildSlice (el := 3) (cs := [vint cap, vint (oil + (c * can))]) Tryz.underlying27 el3 (by decide) (by kernel_rfl) rfl (by decide) rfl ?_))))))))))))))
 intro b2 w2 hzl2 hzr2 _ hb2 hE2 ho2
 have hbs_b2 : w.heap.size ≤ b2 := Nat.le_trans hsz hzl2
 replace hB := below_ext hB hE2 hsz
 replace hb1 := hb1.ext hE2
 replace hsz := Nat.le_trans hsz hE2.size
 refine l_o (o_call Tryz.call60 rfl ((by have h := lmin_ret _ _ [cap, oil + c * can] _ (Row.of_owns ho2) (by simp) (by simp); rw [min_two] at h; exact h)) rfl ?_)
 rintro _ w3 ⟨rfl, hE3⟩
 replace hB := below_ext hB hE3 hsz
 replace hb1 := hb1.ext hE3
 replace hsz := Nat.le_trans hsz hE3.size
 refine l_q (qai rfl rfl) (l_nil (r_forget [(1, .int _ _), (2, .int _ _), (3, .pointer _), (6, .int _ _)] ⟨rfl, rfl, rfl, rfl, trivial⟩ (fun e4 => (r_seq (r_draw ext_refl' ext_trans' [0, 1, 2, 3, 4, 5, 6, 7, 8, 9, 10] [] 2 (by kernel_rfl) (by kernel_rfl) ?_)))))
 intro w5 _ hE5
 replace hB := below_ext hB hE5 hsz
 replace hb1 := hb1.ext hE5
 replace hsz := Nat.le_trans hsz hE5.size
 refine m_q rfl rfl (fun w' hC' => qmi rfl rfl) (m_q rfl rfl (fun w' hC' => qmi rfl rfl) (m_q rfl rfl (fun w' hC' => qmi rfl rfl) (m_q rfl rfl (fun w' hC' => q_fieldAddr (o' := 1) rfl fld46_1 rfl) (m_q rfl rfl (fun w' hC' => q_load Tryz.isAgg3 rfl (((hb1.has (o := 1) rfl).ext hC')) rfl) (m_q rfl rfl (fun w' hC' => q_mul rfl rfl (by omega) rfl) (m_q rfl rfl (fun w' hC' => q_add rfl rfl (by omega) rfl) (m_q rfl rfl (fun w' hC' => qmi rfl rfl) (m_q rfl rfl (fun w' hC' => q_sub rfl rfl (by omega) rfl) (m_q rfl rfl (fun w' hC' => qai rfl rfl) (m_q rfl rfl (fun w' hC' => qai rfl rfl) (m_nil (r_forget [(6, .int _ _), (7, .int _ _)] ⟨rfl, rfl, trivial⟩ (fun e6 => (r_ret_ (vs := [.int _ _, .int _ _]) rfl Tryz.func36 rfl (.nil _) ⟨rfl, rfl, trivial⟩ ?_))))))))))))))
 exact ⟨rfl, Ext.of_below hB⟩
theorem burned_ret (x : NT) (oil wk b : Int) (w : World) (hx : 1 ≤ x.h ∧ x.h ≤ 14) (hwk : 0 ≤ wk ∧ wk ≤ 4) (hb : 0 ≤ b ∧ b ≤ 10) (hoil : 0 ≤ oil ∧ oil ≤ 400) : Ret Tryz.prog 37 [.agg ⟨[vint x.h, vint x.le, vint x.mo, vint x.lo, vint x.hi]⟩, vint oil, vint wk, vint b] w (fun v w' => v = .tuple ⟨[vint (if oil < wantI x wk b then 0 else oil - wantI x wk b), .bool (!decide (oil < wantI x wk b))]⟩ ∧ Ext w w') := by
 obtain ⟨hw1, hw2, hw3, hw4⟩ := want_bnd hx hwk hb
 have hwe : wantI x wk b = x.h * wk * b := rfl
 have hB := Below.refl w.heap.size w
 have hsz : w.heap.size ≤ w.heap.size := Nat.le_refl _
 refine ret_of_runs (args := [_, _, _, _]) Tryz.func37 rfl (Nat.le_of_ble_eq_true rfl) (by kernel_rfl) (r_seq (r_region' (l_o (o_box rfl rfl rfl ?_))))
 intro b1 w1 hzl1 hzr1 _ hb1 hE1
 have hbs_b1 : w.heap.size ≤ b1 := Nat.le_trans hsz hzl1
 replace hB := below_ext hB hE1 hsz
 replace hsz := Nat.le_trans hsz hE1.size
 refine l_q (qai rfl rfl) (l_q (qab rfl rfl) (l_nil (r_seq (r_region' (l_q (q_fieldAddr (o' := 0) rfl fld75_0 rfl) (l_q (q_load Tryz.isAgg3 rfl ((hb1.has (o := 0) rfl)) rfl) (l_q (qmi rfl rfl) (l_q (q_mul rfl rfl (by omega) rfl) (l_q (qmi rfl rfl) (l_q (q_mul rfl rfl (by omega) rfl) (l_q (qai rfl rfl) (l_nil (r_forget [(1, .int _ _), (10, .int _ _)] ⟨rfl, rfl, trivial⟩ (fun e2 => (r_seq (r_seq (r_region' (l_q (qmi rfl rfl) (l_q (qmi rfl rfl) (l_q (q_lss rfl rfl rfl) (l_nil (r_cond rfl (fun hc3 => ?_) (fun hc3 => ?_)))))))))))))))))))))))
 ·
  replace hc3 := dt hc3
  refine r_seq (r_region' (l_q (qai rfl rfl) (l_q (qab rfl rfl) (l_nil (r_ret_ (vs := [.int _ _, .bool _]) rfl Tryz.func37 rfl (.nil _) ⟨rfl, rfl, trivial⟩ ?_)))))
  exact ⟨tup2 (vint_eq (if_pos (by omega)).symm) (vbool_eq (by rw [decide_eq_true (by omega)]; rfl)), Ext.of_below hB⟩
 ·
  replace hc3 := dlt hc3
  refine r_skip (r_seq (r_region' (l_q (qmi rfl rfl) (l_q (qmi rfl rfl) (l_q (q_sub rfl rfl (by omega) rfl) (l_q (qai rfl rfl) (l_q (qab rfl rfl) (l_nil (r_ret_ (vs := [.int _ _, .bool _]) rfl Tryz.func37 rfl (.nil _) ⟨rfl, rfl, trivial⟩ ?_)))))))))
  exact ⟨tup2 (vint_eq (if_neg (by omega)).symm) (vbool_eq (by rw [decide_eq_false (by omega)]; rfl)), Ext.of_below hB⟩
theorem nmost_ret (x : NT) (w : World) : Ret Tryz.prog 93 [.agg ⟨[vint x.h, vint x.le, vint x.mo, vint x.lo, vint x.hi]⟩] w (fun v w' => v = vint x.hi ∧ Ext w w') := by
 have hB := Below.refl w.heap.size w
 have hsz : w.heap.size ≤ w.heap.size := Nat.le_refl _
 refine ret_of_runs (args := [_]) Tryz.func93 rfl (Nat.le_of_ble_eq_true rfl) (by kernel_rfl) (r_seq (r_region' (l_o (o_box rfl rfl rfl ?_))))
 intro b1 w1 hzl1 hzr1 _ hb1 hE1
 have hbs_b1 : w.heap.size ≤ b1 := Nat.le_trans hsz hzl1
 replace hB := below_ext hB hE1 hsz
 replace hsz := Nat.le_trans hsz hE1.size
 refine l_q (qai rfl rfl) (l_nil (r_seq (r_region' (l_q (q_fieldAddr (o' := 3) rfl fld75_3 rfl) (l_q (q_fieldAddr (o' := 1) rfl fld43_1 rfl) (l_q (q_load Tryz.isAgg3 rfl ((hb1.has (o := 4) rfl)) rfl) (l_q (qai rfl rfl) (l_nil (r_ret_ (vs := [.int _ _]) rfl Tryz.func93 rfl (.nil _) ⟨rfl, trivial⟩ ?_)))))))))
 exact ⟨rfl, Ext.of_below hB⟩
theorem least_ret (cap can s0 s1 : Int) (sa : Option Addr) (sc : Nat) (ns : List NT) (k : Nat) (oil c wk : Int) (w : World) (hns : Row w sa ns.length sc 5 (ns.flatMap NT.enc)) (hok : OkS cap can s0 s1 ns) (hk : k < ns.length) (hoil : 0 ≤ oil ∧ oil ≤ 400) (hc : 0 ≤ c ∧ c ≤ 2) (hwk : 0 ≤ wk ∧ wk ≤ 4) : Ret Tryz.prog 77 [.agg ⟨[vint cap, vint can, vint s0, vint s1, .slice sa ns.length sc]⟩, vint (k : Int), vint oil, vint c, vint wk] w (fun v w' => v = .tuple ⟨[vint (leftI cap can (ns.getD k nt0) c wk (ns.getD k nt0).hi oil), .bool (litI cap can (ns.getD k nt0) c wk (ns.getD k nt0).hi oil)]⟩ ∧ Ext w w') := by
 have hn6 := hok.six
 obtain ⟨hq1, hq2, hq3⟩ := hok.at hk
 obtain ⟨hb1, hb2, hb3, hb4⟩ := fill_bnd hok.cap1 hok.can1 hoil hc
 have hB := Below.refl w.heap.size w
 have hsz : w.heap.size ≤ w.heap.size := Nat.le_refl _
 refine ret_of_runs (args := [_, _, _, _, _]) Tryz.func77 rfl (Nat.le_of_ble_eq_true rfl) (by kernel_rfl) (r_seq (r_region' (l_o (o_box rfl rfl rfl ?_))))
 intro b1 w1 hzl1 hzr1 _ hb1 hE1
 have hbs_b1 : w.heap.size ≤ b1 := Nat.le_trans hsz hzl1
 replace hB := below_ext hB hE1 hsz
 replace hsz := Nat.le_trans hsz hE1.size
 refine l_q (qai rfl rfl) (l_q (qab rfl rfl) (l_nil (r_seq (r_region' (l_q (q_build (v := .agg ⟨[.func (.func 93) ⟨[]⟩ ⟨[]⟩]⟩) (fun w => by kernel_rfl) rfl) (l_o (o_alloc Tryz.zeroValue150 rfl rfl ?_)))))))
 intro b2 w2 hzl2 hzr2 _ hb2 hE2
 have hne_b1_b2 : b1 ≠ b2 := by have := hb1.lt; omega
 have hbs_b2 : w.heap.size ≤ b2 := Nat.le_trans hsz hzl2
 replace hB := below_ext hB hE2 hsz
 replace hb1 := hb1.ext hE2
 replace hsz := Nat.le_trans hsz hE2.size
 refine l_o (o_store (vs := [.func (.func 93) ⟨[]⟩ ⟨[]⟩]) (cs' := [.func (.func 93) ⟨[]⟩ ⟨[]⟩]) Tryz.sizeOf150 rfl rfl rfl rfl hb2 (Nat.le_of_ble_eq_true rfl) rfl rfl ?_)
 intro w3 hz3 hb2 hG3
 replace hB := below_upd hB hG3 hsz (by omega)
 replace hsz : w.heap.size ≤ w3.heap.size := by rw [hz3]; exact hsz
 replace hb1 := hb1.upd hG3 (by omega)
 refine l_nil (r_seq (r_region' (l_q (q_fieldAddr (o' := 4) rfl fld46_3 rfl) (l_q (q_load Tryz.isAgg44 rfl ((hb1.has (o := 4) rfl)) rfl) (l_q (qmi rfl rfl) ?_)))))
 obtain ⟨b4, o4, ha4, hh4⟩ := (hns.below hB).at (by decide) k (by omega)
 refine l_q (q_indexAddr Tryz.underlying44 Tryz.sizeOf75 rfl ha4 rfl (by omega) rfl) (l_q (q_load_agg (cs := [vint (((ns).getD k nt0).h), vint (((ns).getD k nt0).le), vint (((ns).getD k nt0).mo), vint (((ns).getD k nt0).lo), vint (((ns).getD k nt0).hi)]) (n := 5) Tryz.isAgg75 Tryz.sizeOf75 rfl ((cells_cast (wide_at NT.len nt0 _ _ (by omega)) hh4)) rfl rfl) (l_o (o_alloc Tryz.zeroValue75 rfl rfl ?_)))
 intro b5 w5 hzl5 hzr5 _ hb5 hE5
 have hne_b1_b5 : b1 ≠ b5 := by have := hb1.lt; omega
 have hne_b2_b5 : b2 ≠ b5 := by have := hb2.lt; omega
 have hbs_b5 : w.heap.size ≤ b5 := Nat.le_trans hsz hzl5
 replace hB := below_ext hB hE5 hsz
 replace hb1 := hb1.ext hE5
 replace hb2 := hb2.ext hE5
 replace hsz := Nat.le_trans hsz hE5.size
 refine l_o (o_store (vs := [vint (((ns).getD k nt0).h), vint (((ns).getD k nt0).le), vint (((ns).getD k nt0).mo), vint (((ns).getD k nt0).lo), vint (((ns).getD k nt0).hi)]) (cs' := [vint (((ns).getD k nt0).h), vint (((ns).getD k nt0).le), vint (((ns).getD k nt0).mo), vint (((ns).getD k nt0).lo), vint (((ns).getD k nt0).hi)]) Tryz.sizeOf75 rfl rfl rfl rfl hb5 (Nat.le_of_ble_eq_true rfl) rfl rfl ?_)
 intro w6 hz6 hb5 hG6
 replace hB := below_upd hB hG6 hsz (by omega)
 replace hsz : w.heap.size ≤ w6.heap.size := by rw [hz6]; exact hsz
 replace hb1 := hb1.upd hG6 (by omega)
 replace hb2 := hb2.upd hG6 (by omega)
 refine l_nil (r_forget [(2, .int _ _), (3, .int _ _), (4, .int _ _), (5, .pointer _), (12, .pointer _), (13, .pointer _)] ⟨rfl, rfl, rfl, rfl, rfl, rfl, trivial⟩ (fun e7 => (r_seq (r_region' (l_q (q_load_agg (n := 5) Tryz.isAgg46 Tryz.sizeOf46 rfl ((hb1.cells' (cs' := [_, _, _, _, _]) 0 5 rfl)) rfl rfl) (l_q (qmi rfl rfl) (l_q (qmi rfl rfl) (l_o (o_call Tryz.call36 rfl (filled_ret cap can s0 s1 sa sc ns oil c _ hok.cap1 hok.can1 hoil hc) rfl ?_)))))))))
 rintro _ w8 ⟨rfl, hE8⟩
 replace hB := below_ext hB hE8 hsz
 replace hb2 := hb2.ext hE8
 replace hb5 := hb5.ext hE8
 replace hsz := Nat.le_trans hsz hE8.size
 refine l_q (q_move (v := .tuple _) rfl rfl) (l_q (q_extract (vs := [_, _]) (v := .int _ _) rfl rfl rfl) (l_q (q_extract (vs := [_, _]) (v := .int _ _) rfl rfl rfl) (l_q (qai rfl rfl) (l_q (qai rfl rfl) (l_nil (r_forget [(4, .int _ _), (12, .pointer _), (13, .pointer _), (14, .int _ _)] ⟨rfl, rfl, rfl, rfl, trivial⟩ (fun e9 => (r_seq (r_draw ext_refl' ext_trans' [0, 1, 2, 3, 4, 5, 6, 7, 8, 9, 10, 11] [6, 7] 12 (by kernel_rfl) (by kernel_rfl) ?_)))))))))
 intro w10 _ hE10
 replace hB := below_ext hB hE10 hsz
 replace hb2 := hb2.ext hE10
 replace hb5 := hb5.ext hE10
 replace hsz := Nat.le_trans hsz hE10.size
 refine m_q rfl rfl (fun w' hC' => q_load_agg (n := 5) Tryz.isAgg75 Tryz.sizeOf75 rfl (((hb5.cells' (cs' := [_, _, _, _, _]) 0 5 rfl).ext hC')) rfl rfl) (m_q rfl rfl (fun w' hC' => qmi rfl rfl) (m_q rfl rfl (fun w' hC' => qmi rfl rfl) (m_q rfl rfl (fun w' hC' => q_fieldAddr (o' := 0) rfl fld150_0 rfl) (m_q rfl rfl (fun w' hC' => q_load Tryz.isAgg147 rfl (((hb2.has (o := 0) rfl).ext hC')) rfl) (m_q rfl rfl (fun w' hC' => q_load_agg (n := 5) Tryz.isAgg75 Tryz.sizeOf75 rfl (((hb5.cells' (cs' := [_, _, _, _, _]) 0 5 rfl).ext hC')) rfl rfl) (m_o rfl rfl (o_callv (f := 93) (fst := []) (cap := []) rfl Tryz.call93 rfl (nmost_ret (ns.getD k nt0) _) rfl ?_)))))))
 rintro _ w11 ⟨rfl, hE11⟩
 refine ⟨hE11, ?_⟩
 replace hB := below_ext hB hE11 hsz
 replace hsz := Nat.le_trans hsz hE11.size
 refine m_o rfl rfl (o_call Tryz.call37 rfl (burned_ret (ns.getD k nt0) (fillI cap can oil c) wk (ns.getD k nt0).hi _ hq1 hwk (by omega) (by omega)) rfl ?_)
 rintro _ w12 ⟨rfl, hE12⟩
 refine ⟨hE12, ?_⟩
 replace hB := below_ext hB hE12 hsz
 replace hsz := Nat.le_trans hsz hE12.size
 refine m_q rfl rfl (fun w' hC' => q_extract (vs := [_, _]) (v := .int _ _) rfl rfl rfl) (m_q rfl rfl (fun w' hC' => q_extract (vs := [_, _]) (v := .bool _) rfl rfl rfl) (m_q rfl rfl (fun w' hC' => qai rfl rfl) (m_q rfl rfl (fun w' hC' => qab rfl rfl) (m_nil (r_forget [(10, .int _ _), (11, .bool _)] ⟨rfl, rfl, trivial⟩ (fun e13 => (r_ret_ (vs := [.int _ _, .bool _]) rfl Tryz.func77 rfl (.nil _) ⟨rfl, rfl, trivial⟩ ?_)))))))
 exact ⟨rfl, Ext.of_below hB⟩
theorem trim1_ret (cap can s0 s1 : Int) (sa : Option Addr) (sc : Nat) (ns : List NT) (sb k : Nat) (w : World) (hns : Row w sa ns.length sc 5 (ns.flatMap NT.enc)) (hsb : Blk w sb [vint cap, vint can, vint s0, vint s1, .slice sa ns.length sc]) (hn6 : ns.length ≤ 6) (hk : k < ns.length) : Ret Tryz.prog 25 [vint (k : Int), ptr sb 0] w (fun v w' => v = vint ((ns.getD k nt0).le) ∧ Ext w w') := by
 have hsl := hsb.lt
 have hB := Below.refl w.heap.size w
 have hsz : w.heap.size ≤ w.heap.size := Nat.le_refl _
 refine ret_of_runs (args := [_, _]) Tryz.func25 rfl (Nat.le_of_ble_eq_true rfl) (by kernel_rfl) (r_seq (r_region' (l_q (qai rfl rfl) (l_nil (r_seq (r_region' (l_q (q_fieldAddr (o' := 4) rfl fld46_3 rfl) (l_q (q_load Tryz.isAgg44 rfl (((hsb.below hB (by omega)).has (o := 4) rfl)) rfl) (l_q (qmi rfl rfl) ?_)))))))))
 obtain ⟨b1, o1, ha1, hh1⟩ := (hns.below hB).at (by decide) k (by omega)
 refine l_q (q_indexAddr Tryz.underlying44 Tryz.sizeOf75 rfl ha1 rfl (by omega) rfl) (l_q (q_fieldAddr (o' := 1) rfl fld75_1 rfl) (l_q (q_load Tryz.isAgg3 rfl (((cells_cast (wide_at NT.len nt0 _ _ (by omega)) hh1) 1 _ rfl)) rfl) (l_q (qai rfl rfl) (l_nil (r_ret_ (vs := [.int _ _]) rfl Tryz.func25 rfl (.nil _) ⟨rfl, trivial⟩ ?_)))))
 exact ⟨rfl, Ext.of_below hB⟩
theorem trim2_ret (cap can s0 s1 : Int) (sa : Option Addr) (sc : Nat) (ns : List NT) (sb k : Nat) (w : World) (hns : Row w sa ns.length sc 5 (ns.flatMap NT.enc)) (hsb : Blk w sb [vint cap, vint can, vint s0, vint s1, .slice sa ns.length sc]) (hn6 : ns.length ≤ 6) (hk : k < ns.length) : Ret Tryz.prog 26 [vint (k : Int), ptr sb 0] w (fun v w' => v = vint ((ns.getD k nt0).mo) ∧ Ext w w') := by
 have hsl := hsb.lt
 have hB := Below.refl w.heap.size w
 have hsz : w.heap.size ≤ w.heap.size := Nat.le_refl _
 refine ret_of_runs (args := [_, _]) Tryz.func26 rfl (Nat.le_of_ble_eq_true rfl) (by kernel_rfl) (r_seq (r_region' (l_q (qai rfl rfl) (l_nil (r_seq (r_region' (l_q (q_fieldAddr (o' := 4) rfl fld46_3 rfl) (l_q (q_load Tryz.isAgg44 rfl (((hsb.below hB (by omega)).has (o := 4) rfl)) rfl) (l_q (qmi rfl rfl) ?_)))))))))
 obtain ⟨b1, o1, ha1, hh1⟩ := (hns.below hB).at (by decide) k (by omega)
 refine l_q (q_indexAddr Tryz.underlying44 Tryz.sizeOf75 rfl ha1 rfl (by omega) rfl) (l_q (q_fieldAddr (o' := 2) rfl fld75_2 rfl) (l_q (q_load Tryz.isAgg3 rfl (((cells_cast (wide_at NT.len nt0 _ _ (by omega)) hh1) 2 _ rfl)) rfl) (l_q (qai rfl rfl) (l_nil (r_ret_ (vs := [.int _ _]) rfl Tryz.func26 rfl (.nil _) ⟨rfl, trivial⟩ ?_)))))
 exact ⟨rfl, Ext.of_below hB⟩
theorem trim3_ret (cap can s0 s1 : Int) (sa : Option Addr) (sc : Nat) (ns : List NT) (sb k : Nat) (n : Int) (w : World) (hns : Row w sa ns.length sc 5 (ns.flatMap NT.enc)) (hsb : Blk w sb [vint cap, vint can, vint s0, vint s1, .slice sa ns.length sc]) (hok : OkS cap can s0 s1 ns) (hk : k < ns.length) (hn : 0 ≤ n ∧ n ≤ 4) : Ret Tryz.prog 27 [vint (k : Int), vint n, ptr sb 0] w (fun v w' => v = vint (-n * (ns.getD k nt0).h) ∧ Ext w w') := by
 have hsl := hsb.lt
 have hn6 := hok.six
 obtain ⟨hq1, hq2, hq3⟩ := hok.at hk
 have hcb := cost_bnd hq1 hn
 have hB := Below.refl w.heap.size w
 have hsz : w.heap.size ≤ w.heap.size := Nat.le_refl _
 refine ret_of_runs (args := [_, _, _]) Tryz.func27 rfl (Nat.le_of_ble_eq_true rfl) (by kernel_rfl) (r_seq (r_region' (l_q (qai rfl rfl) (l_nil (r_seq (r_region' (l_q (qmi rfl rfl) (l_q (q_neg rfl (by omega) rfl) (l_q (q_fieldAddr (o' := 4) rfl fld46_3 rfl) (l_q (q_load Tryz.isAgg44 rfl (((hsb.below hB (by omega)).has (o := 4) rfl)) rfl) (l_q (qmi rfl rfl) ?_)))))))))))
 obtain ⟨b1, o1, ha1, hh1⟩ := (hns.below hB).at (by decide) k (by omega)
 refine l_q (q_indexAddr Tryz.underlying44 Tryz.sizeOf75 rfl ha1 rfl (by omega) rfl) (l_q (q_fieldAddr (o' := 0) rfl fld75_0 rfl) (l_q (q_load Tryz.isAgg3 rfl (((cells_cast (wide_at NT.len nt0 _ _ (by omega)) hh1) 0 _ rfl)) rfl) (l_q (q_mul rfl rfl (by rw [Int.zero_sub]; omega) rfl) (l_q (qai rfl rfl) (l_nil (r_forget [(5, .int _ _)] ⟨rfl, trivial⟩ (fun e2 => (r_ret_ (vs := [.int _ _]) rfl Tryz.func27 rfl (.nil _) ⟨rfl, trivial⟩ ?_))))))))
 exact ⟨vint_eq (by rw [Int.zero_sub]), Ext.of_below hB⟩
theorem trim4_ret (ka : Option Addr) (kc : Nat) (cs : List Int) (kb k : Nat) (n : Int) (w : World) (hcs : Row w ka cs.length kc 1 (cs.map vint)) (hkb : Blk w kb [.slice ka cs.length kc]) (hcl : cs.length ≤ 6) (hk : k < cs.length) : Ret Tryz.prog 28 [vint (k : Int), vint n, ptr kb 0] w (fun v w' => v = .tuple ⟨[vint (cs.getD k 0), vint n]⟩ ∧ Ext w w') := by
 have hkl := hkb.lt
 have hB := Below.refl w.heap.size w
 have hsz : w.heap.size ≤ w.heap.size := Nat.le_refl _
 refine ret_of_runs (args := [_, _, _]) Tryz.func28 rfl (Nat.le_of_ble_eq_true rfl) (by kernel_rfl) (r_seq (r_region' (l_q (qai rfl rfl) (l_q (qai rfl rfl) (l_nil (r_seq (r_region' (l_q (q_load Tryz.isAgg27 rfl (((hkb.below hB (by omega)).has (o := 0) rfl)) rfl) (l_q (qmi rfl rfl) ?_)))))))))
 obtain ⟨b1, o1, ha1, hh1⟩ := (hcs.below hB).at1 k ((cs).getD k 0) (getD_some (by omega))
 refine l_q (q_indexAddr1 Tryz.underlying27 Tryz.sizeOf3 rfl ha1 rfl (by omega) rfl) (l_q (q_load Tryz.isAgg3 rfl (hh1) rfl) (l_q (qmi rfl rfl) (l_q (qai rfl rfl) (l_q (qai rfl rfl) (l_nil (r_ret_ (vs := [.int _ _, .int _ _]) rfl Tryz.func28 rfl (.nil _) ⟨rfl, rfl, trivial⟩ ?_))))))
 exact ⟨rfl, Ext.of_below hB⟩
theorem step_ret (cap can s0 s1 : Int) (sa : Option Addr) (sc : Nat) (ns : List NT) (ka : Option Addr) (kc : Nat) (cs : List Int) (wb sb kb m : Nat) (k : Nat) (oil n : Int) (w : World) (hok : OkS cap can s0 s1 ns) (hcn : CansP ns cs) (hk : LwH w cap can s0 s1 sa sc ns ka kc cs wb sb kb m) (hkn : k < ns.length) (hoil : 0 ≤ oil ∧ oil ≤ 400) (hn : 0 ≤ n ∧ n ≤ 4) : Ret Tryz.prog 57 [ptr wb 0, .agg ⟨[vint (k : Int), vint oil]⟩, vint n] w (fun v w' => v = .tuple ⟨[.agg ⟨[vint ((k + 1 : Nat) : Int), vint (stL cap can s0 s1 ns cs k n oil)]⟩, .bool (stB cap can s0 s1 ns cs k n oil)]⟩ ∧ Ext w w') := by
 have hwl_ := hk.blk.lt
 have hn6 := hok.six
 have hc6 := hcn.1
 have hc := hcn.2 k (by omega)
 have hB := Below.refl w.heap.size w
 have hsz : w.heap.size ≤ w.heap.size := Nat.le_refl _
 refine ret_of_runs (args := [_, _, _]) Tryz.func57 rfl (Nat.le_of_ble_eq_true rfl) (by kernel_rfl) (r_seq (r_region' (l_o (o_box rfl rfl rfl ?_))))
 intro b1 w1 hzl1 hzr1 _ hb1 hE1
 have hne_wb_b1 : wb ≠ b1 := by have := hk.blk.lt; omega
 have hne_sb_b1 : sb ≠ b1 := by have := hk.sbk.lt; omega
 have hne_kb_b1 : kb ≠ b1 := by have := hk.kbk.lt; omega
 have hbs_b1 : w.heap.size ≤ b1 := Nat.le_trans hsz hzl1
 replace hB := below_ext hB hE1 hsz
 replace hsz := Nat.le_trans hsz hE1.size
 refine l_o (o_alloc Tryz.zeroValue120 rfl rfl ?_)
 intro b2 w2 hzl2 hzr2 _ hb2 hE2
 have hne_wb_b2 : wb ≠ b2 := by have := hk.blk.lt; omega
 have hne_sb_b2 : sb ≠ b2 := by have := hk.sbk.lt; omega
 have hne_kb_b2 : kb ≠ b2 := by have := hk.kbk.lt; omega
 have hne_b1_b2 : b1 ≠ b2 := by have := hb1.lt; omega
 have hbs_b2 : w.heap.size ≤ b2 := Nat.le_trans hsz hzl2
 replace hB := below_ext hB hE2 hsz
 replace hb1 := hb1.ext hE2
 replace hsz := Nat.le_trans hsz hE2.size
 refine l_q (qab rfl rfl) (l_nil (r_seq (r_draw ext_refl' ext_trans' [0, 1, 2, 3, 4, 5, 6, 7, 8, 9, 10, 11, 12] [7] 14 (by kernel_rfl) (by kernel_rfl) ?_)))
 intro w3 _ hE3
 replace hB := below_ext hB hE3 hsz
 replace hb1 := hb1.ext hE3
 replace hb2 := hb2.ext hE3
 replace hsz := Nat.le_trans hsz hE3.size
 refine m_q rfl rfl (fun w' hC' => q_move (v := .pointer _) rfl rfl) (m_q rfl rfl (fun w' hC' => q_nilCheck rfl rfl) (m_q rfl rfl (fun w' hC' => q_fieldAddr (o' := 8) rfl fld85_4 rfl) (m_q rfl rfl (fun w' hC' => q_load Tryz.isAgg83 rfl ((((hk.blk.below hB (by omega)).has (o := 8) rfl).ext hC')) rfl) (m_q rfl rfl (fun w' hC' => q_fieldAddr (o' := 0) rfl fld120_0 rfl) (m_q rfl rfl (fun w' hC' => q_load Tryz.isAgg3 rfl (((hb1.has (o := 0) rfl).ext hC')) rfl) (m_q rfl rfl (fun w' hC' => qmi rfl rfl) (m_o rfl rfl (o_callv (f := 28) (fst := []) (cap := [_]) rfl Tryz.call28 rfl (trim4_ret ka kc cs kb k n _ (hk.rC.below hB) (hk.kbk.below hB hk.kbk.lt) (by omega) (by omega)) rfl ?_))))))))
 rintro _ w4 ⟨rfl, hE4⟩
 refine ⟨hE4, ?_⟩
 replace hB := below_ext hB hE4 hsz
 replace hb1 := hb1.ext hE4
 replace hb2 := hb2.ext hE4
 replace hsz := Nat.le_trans hsz hE4.size
 refine m_q rfl rfl (fun w' hC' => q_move (v := .tuple _) rfl rfl) (m_q rfl rfl (fun w' hC' => q_extract (vs := [_, _]) (v := .int _ _) rfl rfl rfl) (m_q rfl rfl (fun w' hC' => q_extract (vs := [_, _]) (v := .int _ _) rfl rfl rfl) (m_q rfl rfl (fun w' hC' => qai rfl rfl) (m_q rfl rfl (fun w' hC' => qai rfl rfl) (m_nil (r_forget [(0, .pointer _), (4, .pointer _), (6, .pointer _), (8, .int _ _), (9, .int _ _)] ⟨rfl, rfl, rfl, rfl, rfl, trivial⟩ (fun e5 => (r_seq (r_draw ext_refl' ext_trans' [0, 1, 2, 3, 4, 5, 6, 7, 8, 9, 10, 11, 12, 13, 14, 15] [10] 16 (by kernel_rfl) (by kernel_rfl) ?_)))))))))
 intro w6 _ hE6
 replace hB := below_ext hB hE6 hsz
 replace hb1 := hb1.ext hE6
 replace hb2 := hb2.ext hE6
 replace hsz := Nat.le_trans hsz hE6.size
 refine m_q rfl rfl (fun w' hC' => q_move (v := .pointer _) rfl rfl) (m_q rfl rfl (fun w' hC' => q_nilCheck rfl rfl) (m_q rfl rfl (fun w' hC' => q_fieldAddr (o' := 0) rfl fld85_0 rfl) (m_q rfl rfl (fun w' hC' => q_load_agg (n := 5) Tryz.isAgg46 Tryz.sizeOf46 rfl ((((hk.blk.below hB (by omega)).cells' (cs' := [_, _, _, _, _]) 0 5 rfl).ext hC')) rfl rfl) (m_q rfl rfl (fun w' hC' => q_fieldAddr (o' := 0) rfl fld120_0 rfl) (m_q rfl rfl (fun w' hC' => q_load Tryz.isAgg3 rfl (((hb1.has (o := 0) rfl).ext hC')) rfl) (m_q rfl rfl (fun w' hC' => q_fieldAddr (o' := 1) rfl fld120_1 rfl) (m_q rfl rfl (fun w' hC' => q_load Tryz.isAgg3 rfl (((hb1.has (o := 1) rfl).ext hC')) rfl) (m_q rfl rfl (fun w' hC' => qmi rfl rfl) (m_q rfl rfl (fun w' hC' => qmi rfl rfl) (m_o rfl rfl (o_call Tryz.call77 rfl (least_ret cap can s0 s1 sa sc ns k oil (cs.getD k 0) n _ (hk.rN.below hB) hok hkn hoil hc hn) rfl ?_)))))))))))
 rintro _ w7 ⟨rfl, hE7⟩
 refine ⟨hE7, ?_⟩
 replace hB := below_ext hB hE7 hsz
 replace hb1 := hb1.ext hE7
 replace hb2 := hb2.ext hE7
 replace hsz := Nat.le_trans hsz hE7.size
 refine m_q rfl rfl (fun w' hC' => q_move (v := .tuple _) rfl rfl) (m_q rfl rfl (fun w' hC' => q_extract (vs := [_, _]) (v := .int _ _) rfl rfl rfl) (m_q rfl rfl (fun w' hC' => q_extract (vs := [_, _]) (v := .bool _) rfl rfl rfl) (m_q rfl rfl (fun w' hC' => qai rfl rfl) (m_q rfl rfl (fun w' hC' => qab rfl rfl) (m_nil (r_forget [(4, .pointer _), (6, .pointer _), (10, .int _ _), (11, .bool _)] ⟨rfl, rfl, rfl, rfl, trivial⟩ (fun e8 => (r_seq (r_region' (l_q (q_fieldAddr (o' := 0) rfl fld120_0 rfl) (l_q (q_load Tryz.isAgg3 rfl ((hb1.has (o := 0) rfl)) rfl) (l_q (q_add rfl rfl (by omega) rfl) (l_q (qmi rfl rfl) (l_q (q_build (v := .agg ⟨[vint ((k : Int) + 1), vint (stL cap can s0 s1 ns cs k n oil)]⟩) (fun w => by kernel_rfl) rfl) (l_q (qmb rfl rfl) ?_)))))))))))))))
 refine l_o (o_store (vs := [vint ((k : Int) + 1), vint (stL cap can s0 s1 ns cs k n oil)]) (cs' := [vint ((k : Int) + 1), vint (stL cap can s0 s1 ns cs k n oil)]) Tryz.sizeOf120 rfl rfl rfl rfl hb2 (Nat.le_of_ble_eq_true rfl) rfl rfl ?_)
 intro w9 hz9 hb2 hG9
 replace hB := below_upd hB hG9 hsz (by omega)
 replace hsz : w.heap.size ≤ w9.heap.size := by rw [hz9]; exact hsz
 refine l_q (qab rfl rfl) (l_nil (r_ret_ (vs := [.agg _, .bool _]) rfl Tryz.func57 rfl (.nil _) ⟨⟨_, _, rfl, run_loadVarA Tryz.isAgg120 Tryz.sizeOf120 (hb2.cells' (cs' := [_, _]) 0 2 rfl) rfl⟩, rfl, trivial⟩ ?_))
 exact ⟨rfl, Ext.of_below hB⟩
end Go.Proofs.YtbikicakdkbcgabGreat
